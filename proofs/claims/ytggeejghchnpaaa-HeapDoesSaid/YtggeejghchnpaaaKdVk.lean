/- Walks by the logic of values. -/
import Derived.Test.YtggeejghchnpaaaKdVmT
import Derived.Test.YtggeejghchnpaaaKdVmP
import Derived.Test.YtggeejghchnpaaaKdVmV
import Derived.Test.YtggeejghchnpaaaKdVmY
import Derived.Test.YtggeejghchnpaaaKdVa
import Derived.Test.YtggeejghchnpaaaKdVb
import Derived.Test.YtggeejghchnpaaaKdVc
import Derived.Test.YtggeejghchnpaaaKdVd
import Derived.Test.YtggeejghchnpaaaKdVe
import Derived.Test.YtggeejghchnpaaaKdVf
import Derived.Test.YtggeejghchnpaaaKdVg
import Derived.Test.YtggeejghchnpaaaKdVh
import Derived.Test.YtggeejghchnpaaaKdVi
import Derived.Test.YtggeejghchnpaaaKdVj
namespace Go.Proofs.Ytggeejghchnpaaa
open Go.Vm
set_option linter.unusedVariables false
set_option linter.unusedSimpArgs false
structure HOp where
  t : Int
  k : Int
  m : Int
deriving Inhabited
abbrev opR (x : HOp) : List V := [.sc (.int .i64 x.t), .sc (.int .i64 x.k), .sc (.int .i64 x.m)]
def allR (n0 c : Nat) : List (List V) := (List.range c).map fun a => [V.ref (n0 + a) 0]
theorem allR_len (n0 c : Nat) : (allR n0 c).length = c := by unfold allR; rw [List.length_map, List.length_range]
theorem allR_s (n0 c : Nat) : allR n0 c ++ [[V.ref (n0 + c) 0]] = allR n0 (c + 1) := by unfold allR; rw [List.range_succ, List.map_append]; rfl
theorem allR_at {n0 c q : Nat} (h : q < c) : (allR n0 c)[((q : Nat) : Int).toNat]? = some [V.ref (n0 + q) 0] := by
  rw [Int.toNat_natCast]; unfold allR; rw [List.getElem?_map, List.getElem?_range h]; rfl
theorem allR_bd {n n0 c : Nat} (h : c = 0 ∨ n0 + c ≤ n) : bdR n (allR n0 c) := bdR_all fun v hv => by
  obtain ⟨j, hj, rfl⟩ := List.mem_map.1 hv
  have := List.mem_range.1 hj
  exact ⟨show n0 + j < n by omega, trivial⟩
def nIx (a : Int) (c : Nat) : Nat := ((a.tmod c + c).tmod c).toNat
theorem tmod_bd (a : Int) {c : Nat} (h : 0 < c) : -(c : Int) < a.tmod c ∧ a.tmod c < c := by
  have h1 := Int.tmod_lt_of_pos a (show (0 : Int) < c by omega)
  have h2 := Int.lt_tmod_of_pos a (show (0 : Int) < c by omega)
  omega
theorem nIx_i (a : Int) {c : Nat} (h : 0 < c) : (a.tmod c + c).tmod c = ((nIx a c : Nat) : Int) ∧ nIx a c < c := by
  have h1 := tmod_bd a h
  have h2 := Int.tmod_nonneg (c : Int) (show 0 ≤ a.tmod c + c by omega)
  have h3 := Int.tmod_lt_of_pos (a.tmod c + c) (show (0 : Int) < c by omega)
  unfold nIx; omega
theorem rmN_le (h : Nat → Nat) (L a : Nat) : rmN h L a ≤ L := by unfold rmN; split <;> omega
set_option maxRecDepth 100000 in
set_option maxHeartbeats 4000000 in
theorem does_c (l : List HOp) (hl : (l.length : Int) ≤ 9223372036854775807) : Does Try.prog 3 [.sl 3 (l.map opR)] [] [] (.sc (.bool true)) := by
  refine does_mkg 300 Try.func3 rfl rfl rfl (fun n B bx hd hpre hup hvs hbx hgx => ?_)
  refine runs_seq ?_
  refine runs_region ?_
  refine rl0 (gn rfl) rfl rfl (step_as rfl rfl) trivial ?_
  refine runsL_nil ?_
  refine runs_seq ?_
  refine runs_seq ?_
  refine runs_region ?_
  refine rl0 (gn rfl) rfl rfl (step_mv rfl rfl) trivial ?_
  refine rl0 (gn rfl) rfl rfl (step_len (m := l.length) rfl rfl (ev_mk rfl) (.inl ⟨⟨_, Try.underlying22⟩, .inl ⟨_, _, .inl rfl, List.length_map _⟩⟩)) trivial ?_
  refine rl_gtr (gn rfl) rfl rfl rfl rfl rfl (fun h1 => ?_) (fun h1 => ?_)
  · skip
    refine runsL_nil ?_
    refine runs_cond true (ev_mk rfl) (fun _ => ?_) (fun h_ => nomatch h_)
    refine runs_seq ?_
    refine runs_region ?_
    refine rl0 (gn rfl) rfl rfl (step_callc rfl Try.func6 rfl rfl rfl (works_c) (by repeat (first | exact .nil | refine .cons ?_ ?_ | exact VLe.refl _ | exact vle_int (by omega) | exact vle_int (kgF_c _ _ _) | exact vle_int (kgF_c _ _ _).symm | exact VLe.own_sl _ _ _ | exact VLe.fl_sl _ _ | exact VLe.nil_sl _ | exact VLe.nil_fl _ | refine VLe.agg ?_))) trivial ?_
    refine rl0 (gn rfl) rfl rfl (step_as rfl rfl) trivial ?_
    refine runsL_nil ?_
    refine runs_ret ?_
    refine ⟨by first | exact .inr rfl | exact .inl rfl, fin_mkg (rest rfl res0) ?_ ?_ ?_ ?_ ?_⟩
    · (repeat' (first | exact VLe.refl _ | exact VLe.own_sl _ _ _ | exact VLe.fl_sl _ _ | exact VLe.nil_sl _ | exact VLe.nil_fl _ | exact VLes.refl _ | exact .nil | refine VLe.tup ?_ | refine VLe.agg ?_ | refine .cons ?_ ?_ | (rw [Int.natCast_add]; exact VLe.refl _) | exact vle_int (by omega) | exact vle_bool (by first | rfl | assumption | (simp_all; done) | fail) | fail))
    · first | ((repeat (first | exact trivial | exact allR_bd (by omega) | assumption | omega | refine ⟨?_, ?_⟩ | fail)); done) | (repeat (first | exact trivial | assumption | omega | (refine bdR_map (fun _ => ?_)) | (refine bdL_map (fun _ => ?_)) | refine ⟨?_, ?_⟩ | fail))
    · intro k_ hk_; exact ble (by repeat (first | exact rfl | refine uN (by omega) ?_ | assumption | fail))
    · intro p hp; cases hp
    · first | ((repeat (first | exact trivial | exact allR_bd (by omega) | assumption | omega | refine ⟨?_, ?_⟩ | fail)); done) | (repeat (first | exact trivial | assumption | omega | (refine bdR_map (fun _ => ?_)) | (refine bdL_map (fun _ => ?_)) | refine ⟨?_, ?_⟩ | fail))
  · skip
    refine runsL_nil ?_
    refine runs_cond false (ev_mk rfl) (fun h_ => nomatch h_) (fun _ => ?_)
    refine runs_skip ?_
    refine runs_seq ?_
    refine runs_region ?_
    refine rl1 (gn rfl) rfl rfl (step_callc rfl Try.func7 rfl rfl rfl (new_c (n + 0)) (by repeat (first | exact .nil | refine .cons ?_ ?_ | exact VLe.refl _ | exact vle_int (by omega) | exact vle_int (kgF_c _ _ _) | exact vle_int (kgF_c _ _ _).symm | exact VLe.own_sl _ _ _ | exact VLe.fl_sl _ _ | exact VLe.nil_sl _ | exact VLe.nil_fl _ | refine VLe.agg ?_))) ⟨by repeat (first | exact uE | refine uN (by omega) ?_ | assumption | exact hd _ (by omega) | fail), trivial⟩ (by omega) ?_
    refine rl0 (gn rfl) rfl rfl (step_as rfl rfl) trivial ?_
    refine runsL_nil ?_
    refine runs_seq ?_
    refine runs_seq ?_
    refine runs_region ?_
    refine rl0 (gn rfl) rfl rfl (step_mv rfl rfl) trivial ?_
    refine rl0 (gn rfl) rfl rfl (step_eq_nil (b := false) rfl (ev_mk rfl) (ev_mk rfl) Try.underlying24 ⟨_, .inl ⟨.inl ⟨_, _, rfl⟩, rfl⟩, .inl ⟨rfl, rfl⟩⟩) trivial ?_
    refine runsL_nil ?_
    refine runs_cond false (ev_mk rfl) (fun h_ => nomatch h_) (fun _ => ?_)
    refine runs_skip ?_
    refine runs_seq ?_
    refine runs_region ?_
    refine rl0 (gn rfl) rfl rfl (step_as rfl rfl) trivial ?_
    refine runsL_nil ?_
    refine runs_seq ?_
    refine runs_region ?_
    refine rl0 (gn rfl) rfl rfl (step_as rfl rfl) trivial ?_
    refine runsL_nil ?_
    refine runs_seq ?_
    refine runs_seq ?_
    refine runs_region ?_
    refine rl0 (gn rfl) rfl rfl (step_as rfl rfl) trivial ?_
    refine runsL_nil ?_
    refine runs_block ?_
    refine runs_growgb (k := n + 0) (kn := n + 1) (q := 0) (e := 1) (by repeat (first | exact uE | refine uN (by omega) ?_ | assumption | exact hd _ (by omega) | fail)) rfl (by repeat (first | exact uE | refine uN (by omega) ?_ | assumption | exact hd _ (by omega) | fail)) (by omega) (by omega) ?_
    refine runs_grow (l' := []) (d := 5) (k := n + 2) (e := 1) (xs := []) rfl (.inr ⟨rfl, rfl⟩) (by repeat (first | exact uE | refine uN (by omega) ?_ | assumption | exact hd _ (by omega) | fail)) (by omega) ?_
    have hs0_ : [] = (allR (n + 10) 0) := by rfl
    have hs1_ : 0 = (0 : Int) := by first | rfl | omega
    have hs2_ : [] = rowsH (n + 10) (fun _ => 0) 0 := by rfl
    have hs3_ : 0 = (allR (n + 10) 0).length := by first | rfl | omega
    refine runs_loop (fun (ri_ : Nat) (st_ : Go.Vm.S) => ∃ (i L M v c : Nat) (h : Nat → Nat) (kf : Nat → Int) (m : List Itm) (m0 : Nat) (b0 : Nat → Box), (st_ = ⟨mk [(0, .sl 3 (l.map opR)), (2, .sc (.bool false)), (3, .ref (n + 0) 0), (4, .sl 2 (m.map itR)), (5, .own 1 (allR (n + 10) c) (n + 2)), (6, .sc (.int .i64 (i : Int)))], m0, b0⟩) ∧ (ri_ = 1 + (l.length - i)) ∧ (n + 150 ≤ m0) ∧ (∀ k_, k_ < n → b0 k_ = bx k_) ∧ (b0 (n + 0) = .cells [.gsl (n + 1) v 0 L 1, .sc (.func (.func 8) #[] #[]), .sc (.int .i64 (c : Int))]) ∧ (b0 (n + 1) = .gcells v 1 (rowsH (n + 10) h M)) ∧ (b0 (n + 2) = .tail (allR (n + 10) c).length) ∧ (i ≤ l.length ∧ c ≤ i ∧ L ≤ i) ∧ (Hst kf h L M c m) ∧ (∀ a, a < c → b0 (n + 10 + a) = .cells (itC kf h L a)) ∧ (∀ a, c ≤ a → a < 128 → b0 (n + 10 + a) = .dead)) (1 + (l.length - 0)) ⟨_, sle ?_ (Nat.le_refl _), 0, 0, 0, 0, 0, (fun _ => 0), (fun _ => 0), [], _, _, rfl, rfl, ?_⟩ ?_
    · (repeat' (first | exact trivial | refine ⟨⟨_, rfl, ?_⟩, ?_⟩ | fail)); all_goals (repeat' (first | exact VLe.refl _ | exact VLe.own_sl _ _ _ | exact VLe.fl_sl _ _ | exact VLe.nil_sl _ | exact VLe.nil_fl _ | exact VLes.refl _ | exact .nil | refine VLe.tup ?_ | refine VLe.agg ?_ | refine .cons ?_ ?_ | (rw [Int.natCast_add]; exact VLe.refl _) | exact vle_int (by omega) | exact vle_bool (by first | rfl | assumption | (simp_all; done) | fail) | (rw [← hs0_]; exact VLe.refl _) | (rw [hs0_]; exact VLe.refl _) | (rw [← hs1_]; exact VLe.refl _) | (rw [hs1_]; exact VLe.refl _) | (rw [← hs2_]; exact VLe.refl _) | (rw [hs2_]; exact VLe.refl _) | (rw [← hs3_]; exact VLe.refl _) | (rw [hs3_]; exact VLe.refl _) | fail))
    · exact ⟨by omega, (fun k_ hk_ => by repeat (first | exact rfl | refine uN (by omega) ?_ | assumption | fail)), by first | ((repeat (first | exact uE | assumption | refine uN (by omega) ?_ | fail)); done) | exact tl_eq (by repeat (first | exact uE | assumption | refine uN (by omega) ?_ | fail)) (by first | rfl | (simp [bytesV, beB_len]; done) | (simp [bytesV, beB_len]; omega) | omega) | (rw [← hs0_]; (repeat (first | exact uE | assumption | refine uN (by omega) ?_ | fail)); done) | (rw [← hs1_]; (repeat (first | exact uE | assumption | refine uN (by omega) ?_ | fail)); done) | (rw [← hs2_]; (repeat (first | exact uE | assumption | refine uN (by omega) ?_ | fail)); done) | (rw [← hs3_]; (repeat (first | exact uE | assumption | refine uN (by omega) ?_ | fail)); done) | (rw [← hs0_, ← hs1_, ← hs2_, ← hs3_]; (repeat (first | exact uE | assumption | refine uN (by omega) ?_ | fail)); done), by first | ((repeat (first | exact uE | assumption | refine uN (by omega) ?_ | fail)); done) | exact tl_eq (by repeat (first | exact uE | assumption | refine uN (by omega) ?_ | fail)) (by first | rfl | (simp [bytesV, beB_len]; done) | (simp [bytesV, beB_len]; omega) | omega) | (rw [← hs0_]; (repeat (first | exact uE | assumption | refine uN (by omega) ?_ | fail)); done) | (rw [← hs1_]; (repeat (first | exact uE | assumption | refine uN (by omega) ?_ | fail)); done) | (rw [← hs2_]; (repeat (first | exact uE | assumption | refine uN (by omega) ?_ | fail)); done) | (rw [← hs3_]; (repeat (first | exact uE | assumption | refine uN (by omega) ?_ | fail)); done) | (rw [← hs0_, ← hs1_, ← hs2_, ← hs3_]; (repeat (first | exact uE | assumption | refine uN (by omega) ?_ | fail)); done), by first | ((repeat (first | exact uE | assumption | refine uN (by omega) ?_ | fail)); done) | exact tl_eq (by repeat (first | exact uE | assumption | refine uN (by omega) ?_ | fail)) (by first | rfl | (simp [bytesV, beB_len]; done) | (simp [bytesV, beB_len]; omega) | omega) | (rw [← hs0_]; (repeat (first | exact uE | assumption | refine uN (by omega) ?_ | fail)); done) | (rw [← hs1_]; (repeat (first | exact uE | assumption | refine uN (by omega) ?_ | fail)); done) | (rw [← hs2_]; (repeat (first | exact uE | assumption | refine uN (by omega) ?_ | fail)); done) | (rw [← hs3_]; (repeat (first | exact uE | assumption | refine uN (by omega) ?_ | fail)); done) | (rw [← hs0_, ← hs1_, ← hs2_, ← hs3_]; (repeat (first | exact uE | assumption | refine uN (by omega) ?_ | fail)); done), ⟨by omega, by omega, by omega⟩, Hst.nil _ _, (fun _ h_ => absurd h_ (Nat.not_lt_zero _)), (fun a_ _ _ => by repeat (first | exact uE | refine uN (by omega) ?_ | assumption | exact hd _ (by omega) | fail))⟩
    · rintro _ _ ⟨i, L, M, v, c, h, kf, m, m0, b0, rfl, rfl, hm0, hf0, hB0_0, hB0_1, hB0_2, hF0_0, hF0_1, hF0_2, hF0_3⟩
      refine runs_know (fun hd0 => ?_)
      refine runs_bump 20 ?_
      simp only at hd0
      have hFi_ := hF0_0
      have hLm0_ := hF0_1.rel.len
      refine runs_seq ?_
      refine runs_seq ?_
      refine runs_region ?_
      refine rl0 (gn rfl) rfl rfl (step_mv rfl rfl) trivial ?_
      refine rl0 (gn rfl) rfl rfl (step_mv rfl rfl) trivial ?_
      refine rl0 (gn rfl) rfl rfl (step_len (m := l.length) rfl rfl (ev_mk rfl) (.inl ⟨⟨_, Try.underlying22⟩, .inl ⟨_, _, .inl rfl, List.length_map _⟩⟩)) trivial ?_
      refine rl_lss (gn rfl) rfl rfl rfl rfl rfl (fun h2 => ?_) (fun h2 => ?_)
      · skip
        refine runsL_nil ?_
        refine runs_cond true (ev_mk rfl) (fun _ => ?_) (fun h_ => nomatch h_)
        refine runs_skip ?_
        refine runs_seq ?_
        refine runs_block ?_
        refine runs_seq ?_
        refine runs_region ?_
        refine rl0 (gn rfl) rfl rfl (step_mv rfl rfl) trivial ?_
        refine rl0 (gn rfl) rfl rfl (step_mv rfl rfl) trivial ?_
        refine' rl0 (gn rfl) rfl rfl (step_index rfl (ev_mk rfl) (.inl rfl) (ev_mk rfl) Try.underlying22 F.sz30 (by omega) ?hr) trivial ?_
        case hr => exact map_at _ _ _ (by omega) (by omega)
        refine rl0 (gn rfl) rfl rfl (step_load_ro_all rfl rfl F.agg30 (by first | rfl | (simp; done) | (first | (simp; done) | (simp; omega) | omega))) trivial ?_
        refine rl1 (gn rfl) rfl rfl (step_allocc (k := m0 + 0) (zs := [.int .i64 0, .int .i64 0, .int .i64 0]) (cs := [.sc (.int .i64 0), .sc (.int .i64 0), .sc (.int .i64 0)]) rfl F.zero30 (by first | rfl | simp) (by first | rfl | decide | simp) (by first | rfl | simp)) ⟨by repeat (first | exact uE | refine uN (by omega) ?_ | assumption | exact hd _ (by omega) | exact hd0 _ (by omega) | fail), trivial⟩ (by omega) ?_
        refine' rls (gn rfl) rfl (step_storeA rfl rfl rfl rfl F.agg30 ?hm ?hl) ⟨?hb, trivial⟩ ?hk ?_
        case hb => repeat (first | exact uE | refine uN (by omega) ?_ | assumption | exact hd _ (by omega) | exact hd0 _ (by omega) | fail)
        case hm => first | rfl | (simp; done) | (first | (simp; done) | (simp; omega) | omega)
        case hl => first | rfl | (simp; done) | (first | (simp; done) | (simp; omega) | omega)
        case hk => omega
        refine runsL_nil ?_
        refine runs_seq ?_
        refine runs_region ?_
        refine rl0 (gn rfl) rfl rfl (step_as rfl rfl) trivial ?_
        refine runsL_nil ?_
        refine runs_seq ?_
        refine runs_seq ?_
        refine runs_region ?_
        refine rl0 (gn rfl) rfl rfl (step_mv rfl rfl) trivial ?_
        refine rl0 (gn rfl) rfl rfl (step_len (m := c) rfl rfl (ev_mk rfl) (.inl ⟨⟨_, Try.underlying28⟩, .inl ⟨_, _, .inr (.inr ⟨_, rfl⟩), allR_len _ _⟩⟩)) trivial ?_
        refine rl_gtr (gn rfl) rfl rfl rfl rfl rfl (fun h3 => ?_) (fun h3 => ?_)
        · skip
          have htm_ := tmod_bd (at' l (i : Int)).m (show 0 < c by omega)
          obtain ⟨hqi_, hq_⟩ := nIx_i (at' l (i : Int)).m (show 0 < c by omega)
          refine runsL_nil ?_
          refine runs_cond true (ev_mk rfl) (fun _ => ?_) (fun h_ => nomatch h_)
          refine runs_region ?_
          refine rl0 (gn rfl) rfl rfl (step_fieldAddr (off := 2) rfl (ev_mk rfl) Try.underlying30 rfl F.sz3 rfl) trivial ?_
          refine' rl0 (gn rfl) rfl rfl (step_load_one rfl (ev_mk rfl) F.one3 ?hv) ⟨?hb, trivial⟩ ?_
          case hb => repeat (first | exact uE | refine uN (by omega) ?_ | assumption | exact hd _ (by omega) | exact hd0 _ (by omega) | fail)
          case hv => rfl
          refine rl0 (gn rfl) rfl rfl (step_mv rfl rfl) trivial ?_
          refine rl0 (gn rfl) rfl rfl (step_len (m := c) rfl rfl (ev_mk rfl) (.inl ⟨⟨_, Try.underlying28⟩, .inl ⟨_, _, .inr (.inr ⟨_, rfl⟩), allR_len _ _⟩⟩)) trivial ?_
          refine rl0 (gn rfl) rfl rfl (step_remw (r := ((at' l (i : Int)).m.tmod c)) rfl (ev_mk rfl) (ev_mk rfl) (by omega) rfl) trivial ?_
          refine rl0 (gn rfl) rfl rfl (step_mv rfl rfl) trivial ?_
          refine rl0 (gn rfl) rfl rfl (step_len (m := c) rfl rfl (ev_mk rfl) (.inl ⟨⟨_, Try.underlying28⟩, .inl ⟨_, _, .inr (.inr ⟨_, rfl⟩), allR_len _ _⟩⟩)) trivial ?_
          refine rl0 (gn rfl) rfl rfl (step_add rfl (ev_mk rfl) (ev_mk rfl) (w64 (by omega))) trivial ?_
          refine rl0 (gn rfl) rfl rfl (step_mv rfl rfl) trivial ?_
          refine rl0 (gn rfl) rfl rfl (step_len (m := c) rfl rfl (ev_mk rfl) (.inl ⟨⟨_, Try.underlying28⟩, .inl ⟨_, _, .inr (.inr ⟨_, rfl⟩), allR_len _ _⟩⟩)) trivial ?_
          refine rl0 (gn rfl) rfl rfl (step_remw (r := (((nIx (at' l (i : Int)).m c) : Nat) : Int)) rfl (ev_mk rfl) (ev_mk rfl) (by omega) hqi_) trivial ?_
          refine rl0 (gn rfl) rfl rfl (step_as rfl rfl) trivial ?_
          refine runsL_nil ?_
          refine runs_seq ?_
          refine runs_block ?_
          refine runs_seq ?_
          refine runs_region ?_
          refine rl0 (gn rfl) rfl rfl (step_fieldAddr (off := 0) rfl (ev_mk rfl) Try.underlying30 rfl F.sz3 rfl) trivial ?_
          refine' rl0 (gn rfl) rfl rfl (step_load_one rfl (ev_mk rfl) F.one3 ?hv) ⟨?hb, trivial⟩ ?_
          case hb => repeat (first | exact uE | refine uN (by omega) ?_ | assumption | exact hd _ (by omega) | exact hd0 _ (by omega) | fail)
          case hv => rfl
          refine rl_eql (gn rfl) rfl rfl rfl rfl rfl (fun h4 => ?_) (fun h4 => ?_)
          · skip
            refine rl0 (gn rfl) rfl rfl (step_mv rfl rfl) trivial ?_
            refine rlk rfl rfl rfl rfl rfl (ngb rfl rfl) rfl rfl ?_
            refine rlk rfl rfl rfl rfl rfl (ngb rfl rfl) rfl rfl ?_
            refine rlk rfl rfl rfl rfl rfl (ngb rfl rfl) rfl rfl ?_
            refine rl0 (gn rfl) rfl rfl (step_pick rfl (ev_mk rfl) (ev_mk rfl)) trivial ?_
            refine rl0 (gn rfl) rfl rfl (step_as rfl rfl) trivial ?_
            refine runsL_nil ?_
            refine runs_cond true (ev_mk rfl) (fun _ => ?_) (fun h_ => nomatch h_)
            refine runs_seq ?_
            refine runs_region ?_
            refine rl0 (gn rfl) rfl rfl (step_mv rfl rfl) trivial ?_
            refine rl0 (gn rfl) rfl rfl (step_fieldAddr (off := 1) rfl (ev_mk rfl) Try.underlying30 rfl F.sz3 rfl) trivial ?_
            refine' rl0 (gn rfl) rfl rfl (step_load_one rfl (ev_mk rfl) F.one3 ?hv) ⟨?hb, trivial⟩ ?_
            case hb => repeat (first | exact uE | refine uN (by omega) ?_ | assumption | exact hd _ (by omega) | exact hd0 _ (by omega) | fail)
            case hv => rfl
            refine rl0 (gn rfl) rfl rfl (step_mv rfl rfl) trivial ?_
            refine rl0 (gn rfl) rfl rfl (step_len (m := c) rfl rfl (ev_mk rfl) (.inl ⟨⟨_, Try.underlying28⟩, .inl ⟨_, _, .inr (.inr ⟨_, rfl⟩), allR_len _ _⟩⟩)) trivial ?_
            refine rl0 (gn rfl) rfl rfl (step_build (ss := [1, 1]) (zs := [.int .i64 0, .int .i64 0]) rfl Try.underlying33 (by kernel_rfl) F.zero33 rfl rfl rfl) trivial ?_
            refine rl0 (gn rfl) rfl rfl (step_callc rfl Try.func9 rfl rfl rfl (insert_c m ⟨(at' l (i : Int)).k, c⟩ (by omega)) (by repeat (first | exact .nil | refine .cons ?_ ?_ | exact VLe.refl _ | exact vle_int (by omega) | exact vle_int (kgF_c _ _ _) | exact vle_int (kgF_c _ _ _).symm | exact VLe.own_sl _ _ _ | exact VLe.fl_sl _ _ | exact VLe.nil_sl _ | exact VLe.nil_fl _ | refine VLe.agg ?_))) trivial ?_
            refine rl0 (gn rfl) rfl rfl (step_as rfl rfl) trivial ?_
            refine runsL_nil ?_
            have hdd_ : b0 (n + 10 + c) = .dead := hF0_3 c (by omega) (by omega)
            refine runs_region ?_
            refine rl0 (gn rfl) rfl rfl (step_mv rfl rfl) trivial ?_
            refine rl0 (gn rfl) rfl rfl (step_mv rfl rfl) trivial ?_
            refine rl0 (gn rfl) rfl rfl (step_fieldAddr (off := 1) rfl (ev_mk rfl) Try.underlying30 rfl F.sz3 rfl) trivial ?_
            refine' rl0 (gn rfl) rfl rfl (step_load_one rfl (ev_mk rfl) F.one3 ?hv) ⟨?hb, trivial⟩ ?_
            case hb => repeat (first | exact uE | refine uN (by omega) ?_ | assumption | exact hd _ (by omega) | exact hd0 _ (by omega) | fail)
            case hv => rfl
            refine rl_fam (gn rfl) rfl rfl (step_callc rfl Try.func10 rfl rfl rfl (push_c (kgF kf c (at' l (i : Int)).k) h (n + 10) (n + 0) (n + 1) v L M c hF0_1.le (by omega) (by omega) hF0_1.inj (fun j_ h_ => hF0_1.lt j_ (by have := hF0_1.le; omega)) (by omega) (by omega) (by omega)) (by repeat (first | exact .nil | refine .cons ?_ ?_ | exact VLe.refl _ | exact vle_int (by omega) | exact vle_int (kgF_c _ _ _) | exact vle_int (kgF_c _ _ _).symm | exact VLe.own_sl _ _ _ | exact VLe.fl_sl _ _ | exact VLe.nil_sl _ | exact VLe.nil_fl _ | refine VLe.agg ?_))) ⟨by repeat (first | exact uE | refine uN (by omega) ?_ | assumption | exact hd _ (by omega) | exact hd0 _ (by omega) | fail), by repeat (first | exact uE | refine uN (by omega) ?_ | assumption | exact hd _ (by omega) | exact hd0 _ (by omega) | fail), by repeat (first | exact uE | refine uN (by omega) ?_ | assumption | exact hd _ (by omega) | exact hd0 _ (by omega) | fail), fam_ok (fam_kg (fun a_ ha_ => by repeat (first | exact hF0_2 a_ ha_ | refine uN (by omega) ?_ | fail)))⟩ (by repeat (first | exact trivial | refine ⟨by omega, ?_⟩)) (by omega) (fun bz1 hfam1 hfz1 => ?_)
            simp only [upds] at hfz1
            have hst_1 : Hst (kgF kf c (at' l (i : Int)).k) (upF (kgF kf c (at' l (i : Int)).k) L (upd1 h L c) L) (L + 1) (L + 1) (c + 1) (insR m ⟨(at' l (i : Int)).k, c⟩) := hF0_1.put
            refine rl0 (gn rfl) rfl rfl (step_lit rfl Try.underlying28 F.sz34 F.zero34 (by first | rfl | simp) (by first | rfl | simp | decide) (by decide) rfl rfl (by first | (simp [V.cs, V.stor, oneV]; done) | (simp [V.cs, V.stor, oneV])) rfl) trivial ?_
            refine' rl1 (gn rfl) rfl rfl (step_append_own rfl rfl rfl Try.underlying28 ⟨_, Try.underlying28, fun k_ => by intro h_; cases h_⟩ F.el34 (ev_mk rfl) (ev_mk rfl) (gives_sl (.inr (.inl rfl))) ?hg) ⟨?hb, trivial⟩ (by omega) ?_
            case hb => repeat (first | exact uE | refine uN (by omega) ?_ | assumption | exact hd _ (by omega) | exact hd0 _ (by omega) | refine (hfz1 _ (by first | assumption | omega)).trans ?_ | fail)
            case hg => (rw [allR_len]; show c + 1 ≤ 1073741824; omega)
            refine rl0 (gn rfl) rfl rfl (step_as rfl rfl) trivial ?_
            refine runsL_nil ?_
            refine runs_seq ?_
            have hst_ : Hst (kgF kf c (at' l (i : Int)).k) (upF (kgF kf c (at' l (i : Int)).k) L (upd1 h L c) L) (L + 1) (L + 1) (c + 1) (insR m ⟨(at' l (i : Int)).k, c⟩) := hst_1
            have hLm_ := hst_.rel.len
            have hrn_ := rmN_le h L (nIx (at' l (i : Int)).m c)
            refine runs_region ?_
            refine rl0 (gn rfl) rfl rfl (step_mv rfl rfl) trivial ?_
            refine rl0 (gn rfl) rfl rfl (step_callc rfl Try.func15 rfl rfl rfl (top_c (kgF kf c (at' l (i : Int)).k) (upF (kgF kf c (at' l (i : Int)).k) L (upd1 h L c) L) (n + 10) (n + 0) (n + 1) (v + 1) (L + 1) (L + 1) (c + 1) hst_.le hst_.lt) (by repeat (first | exact .nil | refine .cons ?_ ?_ | exact VLe.refl _ | exact vle_int (by omega) | exact vle_int (kgF_c _ _ _) | exact vle_int (kgF_c _ _ _).symm | exact VLe.own_sl _ _ _ | exact VLe.fl_sl _ _ | exact VLe.nil_sl _ | exact VLe.nil_fl _ | refine VLe.agg ?_))) ⟨by repeat (first | exact uE | refine uN (by omega) ?_ | assumption | exact hd _ (by omega) | exact hd0 _ (by omega) | refine (hfz1 _ (by first | assumption | omega)).trans ?_ | fail), by repeat (first | exact uE | refine uN (by omega) ?_ | assumption | exact hd _ (by omega) | exact hd0 _ (by omega) | refine (hfz1 _ (by first | assumption | omega)).trans ?_ | fail), fam_ok (fun a_ ha_ => by repeat (first | exact hfam1 a_ ha_ | refine uN (by omega) ?_ | refine (hfz1 _ (by first | assumption | omega)).trans ?_ | fail))⟩ ?_
            refine rl0 (gn rfl) rfl rfl (step_mv rfl rfl) trivial ?_
            refine rl0 (gn rfl) rfl rfl (step_extract rfl (ev_mk rfl) rfl) trivial ?_
            refine rl0 (gn rfl) rfl rfl (step_extract rfl (ev_mk rfl) rfl) trivial ?_
            refine rl0 (gn rfl) rfl rfl (step_as rfl rfl) trivial ?_
            refine rl0 (gn rfl) rfl rfl (step_as rfl rfl) trivial ?_
            refine runsL_nil ?_
            refine runs_seq ?_
            refine runs_region ?_
            refine rl0 (gn rfl) rfl rfl (step_mv rfl rfl) trivial ?_
            refine rl0 (gn rfl) rfl rfl (step_callc rfl Try.func16 rfl rfl rfl (len_c (n + 0) (n + 1) (v + 1) (L + 1) (c + 1)) (by repeat (first | exact .nil | refine .cons ?_ ?_ | exact VLe.refl _ | exact vle_int (by omega) | exact vle_int (kgF_c _ _ _) | exact vle_int (kgF_c _ _ _).symm | exact VLe.own_sl _ _ _ | exact VLe.fl_sl _ _ | exact VLe.nil_sl _ | exact VLe.nil_fl _ | refine VLe.agg ?_))) ⟨by repeat (first | exact uE | refine uN (by omega) ?_ | assumption | exact hd _ (by omega) | exact hd0 _ (by omega) | refine (hfz1 _ (by first | assumption | omega)).trans ?_ | fail), trivial⟩ ?_
            refine rl0 (gn rfl) rfl rfl (step_mv rfl rfl) trivial ?_
            refine rl0 (gn rfl) rfl rfl (step_len (m := (insR m ⟨(at' l (i : Int)).k, c⟩).length) rfl rfl (ev_mk rfl) (.inl ⟨⟨_, Try.underlying27⟩, .inl ⟨_, _, .inl rfl, List.length_map _⟩⟩)) trivial ?_
            refine rl_neq (gn rfl) rfl rfl rfl rfl rfl (fun h5 => ?_) (fun h5 => ?_)
            · exact False.elim (by omega)
            refine rl0 (gn rfl) rfl rfl (step_mv rfl rfl) trivial ?_
            refine rl0 (gy rfl rfl rfl rfl rfl rfl) rfl rfl (step_mv rfl rfl) trivial ?_
            refine rl0 (gy rfl rfl rfl rfl rfl rfl) rfl rfl (step_callc rfl Try.func17 rfl rfl rfl (sound_c (kgF kf c (at' l (i : Int)).k) (upF (kgF kf c (at' l (i : Int)).k) L (upd1 h L c) L) (n + 10) (n + 0) (n + 1) (v + 1) (L + 1) (L + 1) (c + 1) hst_.le (by omega) hst_.inj hst_.lt hst_.rel.hp) (by repeat (first | exact .nil | refine .cons ?_ ?_ | exact VLe.refl _ | exact vle_int (by omega) | exact vle_int (kgF_c _ _ _) | exact vle_int (kgF_c _ _ _).symm | exact VLe.own_sl _ _ _ | exact VLe.fl_sl _ _ | exact VLe.nil_sl _ | exact VLe.nil_fl _ | refine VLe.agg ?_))) ⟨by repeat (first | exact uE | refine uN (by omega) ?_ | assumption | exact hd _ (by omega) | exact hd0 _ (by omega) | refine (hfz1 _ (by first | assumption | omega)).trans ?_ | fail), by repeat (first | exact uE | refine uN (by omega) ?_ | assumption | exact hd _ (by omega) | exact hd0 _ (by omega) | refine (hfz1 _ (by first | assumption | omega)).trans ?_ | fail), fam_ok (fun a_ ha_ => by repeat (first | exact hfam1 a_ ha_ | refine uN (by omega) ?_ | refine (hfz1 _ (by first | assumption | omega)).trans ?_ | fail))⟩ ?_
            refine rl0 (gy rfl rfl rfl rfl rfl rfl) rfl rfl (step_unOp (c := .bool false) rfl (ev_mk rfl) (fun _ => rfl)) trivial ?_
            refine rl0 (gn rfl) rfl rfl (step_pick rfl (ev_mk rfl) (ev_mk rfl)) trivial ?_
            refine rl0 (gn rfl) rfl rfl (step_mv rfl rfl) trivial ?_
            refine rl0 (gy rfl rfl rfl rfl rfl rfl) rfl rfl (step_mv rfl rfl) trivial ?_
            refine rl0 (gy rfl rfl rfl rfl rfl rfl) rfl rfl (step_mv rfl rfl) trivial ?_
            refine rl0 (gy rfl rfl rfl rfl rfl rfl) rfl rfl (step_len (m := (insR m ⟨(at' l (i : Int)).k, c⟩).length) rfl rfl (ev_mk rfl) (.inl ⟨⟨_, Try.underlying27⟩, .inl ⟨_, _, .inl rfl, List.length_map _⟩⟩)) trivial ?_
            refine rl_gtr (gy rfl rfl rfl rfl rfl rfl) rfl rfl rfl rfl rfl (fun h6 => ?_) (fun h6 => ?_)
            · skip
              refine rl0 (gy rfl rfl rfl rfl rfl rfl) rfl rfl (step_neqb rfl (ev_mk rfl) (ev_mk rfl) Try.underlying4) trivial ?_
              refine rl_know (d := 170) (c := false) rfl (by rw [decide_eq_true (show 0 < L + 1 by omega)]; rfl) ?_
              refine rl0 (gn rfl) rfl rfl (step_pick rfl (ev_mk rfl) (ev_mk rfl)) trivial ?_
              refine rl0 (gn rfl) rfl rfl (step_mv rfl rfl) trivial ?_
              refine rl0 (gy rfl rfl rfl rfl rfl rfl) rfl rfl (step_mv rfl rfl) trivial ?_
              refine rl_know (d := 173) (c := true) rfl (decide_eq_true (by omega)) ?_
              refine rl0 (gy rfl rfl rfl rfl rfl rfl) rfl rfl (step_mv rfl rfl) trivial ?_
              refine rl0 (gy rfl rfl rfl rfl rfl rfl) rfl rfl (step_mv rfl rfl) trivial ?_
              refine rl0 (gy rfl rfl rfl rfl rfl rfl) rfl rfl (step_mv rfl rfl) trivial ?_
              refine' rl0 (gy rfl rfl rfl rfl rfl rfl) rfl rfl (step_index rfl (ev_mk rfl) (.inl rfl) (ev_mk rfl) Try.underlying27 F.sz33 (by omega) ?hr) trivial ?_
              case hr => exact map_at _ _ _ (by omega) (by omega)
              refine rl0 (gy rfl rfl rfl rfl rfl rfl) rfl rfl (step_fieldAddr_ro (off := 0) rfl (ev_mk rfl) Try.underlying33 rfl F.sz3 rfl rfl) trivial ?_
              refine rl0 (gy rfl rfl rfl rfl rfl rfl) rfl rfl (step_load_ro rfl (ev_mk rfl) F.one3 rfl) trivial ?_
              refine rl_neq (gy rfl rfl rfl rfl rfl rfl) rfl rfl rfl rfl rfl (fun h7 => ?_) (fun h7 => ?_)
              · exact False.elim (by exact absurd (hst_.top (by omega)).1 h7)
              refine rl0 (gy rfl rfl rfl rfl rfl rfl) rfl rfl (step_pick rfl (ev_mk rfl) (ev_mk rfl)) trivial ?_
              refine rl0 (gn rfl) rfl rfl (step_pick rfl (ev_mk rfl) (ev_mk rfl)) trivial ?_
              refine runsL_nil ?_
              refine runs_cond false (ev_mk rfl) (fun h_ => nomatch h_) (fun _ => ?_)
              refine runs_skip ?_
              refine runs_region ?_
              refine rl0 (gn rfl) rfl rfl (step_mv rfl rfl) trivial ?_
              refine rl0 (gn rfl) rfl rfl (step_add rfl (ev_mk rfl) (ev_mk rfl) (w64 (by omega))) trivial ?_
              refine rl0 (gn rfl) rfl rfl (step_as rfl rfl) trivial ?_
              refine runsL_nil ?_
              have hq0_ : (allR (n + 10) c) ++ [[V.ref ((n + 10) + c) 0]] = (allR (n + 10) (c + 1)) := by exact allR_s _ _
              have hq1_ : ((i : Int) + 1) = ((i + 1) : Int) := by omega
              refine ⟨_, _, ?_, sle ?_ (Nat.le_refl _), (i + 1), (L + 1), (L + 1), (v + 1), (c + 1), (upF (kgF kf c (at' l (i : Int)).k) L (upd1 h L c) L), (kgF kf c (at' l (i : Int)).k), (insR m ⟨(at' l (i : Int)).k, c⟩), _, _, rfl, rfl, by omega, (fun k_ hk_ => by repeat (first | exact hf0 k_ hk_ | refine (hfz1 _ (by first | assumption | omega)).trans ?_ | refine uN (by first | assumption | omega) ?_ | fail)), by first | ((repeat (first | exact uE | assumption | refine uN (by omega) ?_ | refine (hfz1 _ (by first | assumption | omega)).trans ?_ | fail)); done) | exact tl_eq (by repeat (first | exact uE | assumption | refine uN (by omega) ?_ | refine (hfz1 _ (by first | assumption | omega)).trans ?_ | fail)) (by first | rfl | (simp [bytesV, beB_len]; done) | (simp [bytesV, beB_len]; omega) | omega) | (rw [← hq0_]; (repeat (first | exact uE | assumption | refine uN (by omega) ?_ | refine (hfz1 _ (by first | assumption | omega)).trans ?_ | fail)); done) | (rw [← hq1_]; (repeat (first | exact uE | assumption | refine uN (by omega) ?_ | refine (hfz1 _ (by first | assumption | omega)).trans ?_ | fail)); done) | (rw [← hq0_, ← hq1_]; (repeat (first | exact uE | assumption | refine uN (by omega) ?_ | refine (hfz1 _ (by first | assumption | omega)).trans ?_ | fail)); done), by first | ((repeat (first | exact uE | assumption | refine uN (by omega) ?_ | refine (hfz1 _ (by first | assumption | omega)).trans ?_ | fail)); done) | exact tl_eq (by repeat (first | exact uE | assumption | refine uN (by omega) ?_ | refine (hfz1 _ (by first | assumption | omega)).trans ?_ | fail)) (by first | rfl | (simp [bytesV, beB_len]; done) | (simp [bytesV, beB_len]; omega) | omega) | (rw [← hq0_]; (repeat (first | exact uE | assumption | refine uN (by omega) ?_ | refine (hfz1 _ (by first | assumption | omega)).trans ?_ | fail)); done) | (rw [← hq1_]; (repeat (first | exact uE | assumption | refine uN (by omega) ?_ | refine (hfz1 _ (by first | assumption | omega)).trans ?_ | fail)); done) | (rw [← hq0_, ← hq1_]; (repeat (first | exact uE | assumption | refine uN (by omega) ?_ | refine (hfz1 _ (by first | assumption | omega)).trans ?_ | fail)); done), by first | ((repeat (first | exact uE | assumption | refine uN (by omega) ?_ | refine (hfz1 _ (by first | assumption | omega)).trans ?_ | fail)); done) | exact tl_eq (by repeat (first | exact uE | assumption | refine uN (by omega) ?_ | refine (hfz1 _ (by first | assumption | omega)).trans ?_ | fail)) (by first | rfl | (simp [bytesV, beB_len]; done) | (simp [bytesV, beB_len]; omega) | omega) | (rw [← hq0_]; (repeat (first | exact uE | assumption | refine uN (by omega) ?_ | refine (hfz1 _ (by first | assumption | omega)).trans ?_ | fail)); done) | (rw [← hq1_]; (repeat (first | exact uE | assumption | refine uN (by omega) ?_ | refine (hfz1 _ (by first | assumption | omega)).trans ?_ | fail)); done) | (rw [← hq0_, ← hq1_]; (repeat (first | exact uE | assumption | refine uN (by omega) ?_ | refine (hfz1 _ (by first | assumption | omega)).trans ?_ | fail)); done), ⟨by omega, by omega, by omega⟩, hst_1, (fun a_ ha_ => by repeat (first | exact hfam1 a_ ha_ | refine uN (by omega) ?_ | refine (hfz1 _ (by first | assumption | omega)).trans ?_ | fail)), (fun a_ h1_ h2_ => by repeat (first | exact hF0_3 a_ (by omega) h2_ | refine uN (by omega) ?_ | refine (hfz1 _ (by first | assumption | omega)).trans ?_ | fail))⟩
              · omega
              · (repeat' (first | exact trivial | refine ⟨⟨_, rfl, ?_⟩, ?_⟩ | fail)); all_goals (repeat' (first | exact VLe.refl _ | exact VLe.own_sl _ _ _ | exact VLe.fl_sl _ _ | exact VLe.nil_sl _ | exact VLe.nil_fl _ | exact VLes.refl _ | exact .nil | refine VLe.tup ?_ | refine VLe.agg ?_ | refine .cons ?_ ?_ | (rw [Int.natCast_add]; exact VLe.refl _) | exact vle_int (by omega) | exact vle_bool (by first | rfl | assumption | (simp_all; done) | fail) | (rw [← hq0_]; exact VLe.refl _) | (rw [hq0_]; exact VLe.refl _) | (rw [← hq1_]; exact VLe.refl _) | (rw [hq1_]; exact VLe.refl _) | fail))
            · skip
              refine rl0 (gy rfl rfl rfl rfl rfl rfl) rfl rfl (step_neqb rfl (ev_mk rfl) (ev_mk rfl) Try.underlying4) trivial ?_
              refine rl_know (d := 170) (c := false) rfl (by rw [decide_eq_false (show ¬ 0 < L + 1 by omega)]; rfl) ?_
              refine rl0 (gn rfl) rfl rfl (step_pick rfl (ev_mk rfl) (ev_mk rfl)) trivial ?_
              refine rl0 (gn rfl) rfl rfl (step_mv rfl rfl) trivial ?_
              refine rl0 (gy rfl rfl rfl rfl rfl rfl) rfl rfl (step_mv rfl rfl) trivial ?_
              refine rl_know (d := 173) (c := false) rfl (decide_eq_false (by omega)) ?_
              refine rl0 (gy rfl rfl rfl rfl rfl rfl) rfl rfl (step_mv rfl rfl) trivial ?_
              refine rlk rfl rfl rfl rfl rfl (ngb rfl rfl) rfl rfl ?_
              refine rlk rfl rfl rfl rfl rfl (ngb rfl rfl) rfl rfl ?_
              refine rlk rfl rfl rfl rfl rfl (ngb rfl rfl) rfl rfl ?_
              refine rlk rfl rfl rfl rfl rfl (ngb rfl rfl) rfl rfl ?_
              refine rlk rfl rfl rfl rfl rfl (ngb rfl rfl) rfl rfl ?_
              refine rlk rfl rfl rfl rfl rfl (ngb rfl rfl) rfl rfl ?_
              refine rl0 (gy rfl rfl rfl rfl rfl rfl) rfl rfl (step_pick rfl (ev_mk rfl) (ev_mk rfl)) trivial ?_
              refine rl0 (gn rfl) rfl rfl (step_pick rfl (ev_mk rfl) (ev_mk rfl)) trivial ?_
              refine runsL_nil ?_
              refine runs_cond false (ev_mk rfl) (fun h_ => nomatch h_) (fun _ => ?_)
              refine runs_skip ?_
              refine runs_region ?_
              refine rl0 (gn rfl) rfl rfl (step_mv rfl rfl) trivial ?_
              refine rl0 (gn rfl) rfl rfl (step_add rfl (ev_mk rfl) (ev_mk rfl) (w64 (by omega))) trivial ?_
              refine rl0 (gn rfl) rfl rfl (step_as rfl rfl) trivial ?_
              refine runsL_nil ?_
              have hq0_ : (allR (n + 10) c) ++ [[V.ref ((n + 10) + c) 0]] = (allR (n + 10) (c + 1)) := by exact allR_s _ _
              have hq1_ : ((i : Int) + 1) = ((i + 1) : Int) := by omega
              refine ⟨_, _, ?_, sle ?_ (Nat.le_refl _), (i + 1), (L + 1), (L + 1), (v + 1), (c + 1), (upF (kgF kf c (at' l (i : Int)).k) L (upd1 h L c) L), (kgF kf c (at' l (i : Int)).k), (insR m ⟨(at' l (i : Int)).k, c⟩), _, _, rfl, rfl, by omega, (fun k_ hk_ => by repeat (first | exact hf0 k_ hk_ | refine (hfz1 _ (by first | assumption | omega)).trans ?_ | refine uN (by first | assumption | omega) ?_ | fail)), by first | ((repeat (first | exact uE | assumption | refine uN (by omega) ?_ | refine (hfz1 _ (by first | assumption | omega)).trans ?_ | fail)); done) | exact tl_eq (by repeat (first | exact uE | assumption | refine uN (by omega) ?_ | refine (hfz1 _ (by first | assumption | omega)).trans ?_ | fail)) (by first | rfl | (simp [bytesV, beB_len]; done) | (simp [bytesV, beB_len]; omega) | omega) | (rw [← hq0_]; (repeat (first | exact uE | assumption | refine uN (by omega) ?_ | refine (hfz1 _ (by first | assumption | omega)).trans ?_ | fail)); done) | (rw [← hq1_]; (repeat (first | exact uE | assumption | refine uN (by omega) ?_ | refine (hfz1 _ (by first | assumption | omega)).trans ?_ | fail)); done) | (rw [← hq0_, ← hq1_]; (repeat (first | exact uE | assumption | refine uN (by omega) ?_ | refine (hfz1 _ (by first | assumption | omega)).trans ?_ | fail)); done), by first | ((repeat (first | exact uE | assumption | refine uN (by omega) ?_ | refine (hfz1 _ (by first | assumption | omega)).trans ?_ | fail)); done) | exact tl_eq (by repeat (first | exact uE | assumption | refine uN (by omega) ?_ | refine (hfz1 _ (by first | assumption | omega)).trans ?_ | fail)) (by first | rfl | (simp [bytesV, beB_len]; done) | (simp [bytesV, beB_len]; omega) | omega) | (rw [← hq0_]; (repeat (first | exact uE | assumption | refine uN (by omega) ?_ | refine (hfz1 _ (by first | assumption | omega)).trans ?_ | fail)); done) | (rw [← hq1_]; (repeat (first | exact uE | assumption | refine uN (by omega) ?_ | refine (hfz1 _ (by first | assumption | omega)).trans ?_ | fail)); done) | (rw [← hq0_, ← hq1_]; (repeat (first | exact uE | assumption | refine uN (by omega) ?_ | refine (hfz1 _ (by first | assumption | omega)).trans ?_ | fail)); done), by first | ((repeat (first | exact uE | assumption | refine uN (by omega) ?_ | refine (hfz1 _ (by first | assumption | omega)).trans ?_ | fail)); done) | exact tl_eq (by repeat (first | exact uE | assumption | refine uN (by omega) ?_ | refine (hfz1 _ (by first | assumption | omega)).trans ?_ | fail)) (by first | rfl | (simp [bytesV, beB_len]; done) | (simp [bytesV, beB_len]; omega) | omega) | (rw [← hq0_]; (repeat (first | exact uE | assumption | refine uN (by omega) ?_ | refine (hfz1 _ (by first | assumption | omega)).trans ?_ | fail)); done) | (rw [← hq1_]; (repeat (first | exact uE | assumption | refine uN (by omega) ?_ | refine (hfz1 _ (by first | assumption | omega)).trans ?_ | fail)); done) | (rw [← hq0_, ← hq1_]; (repeat (first | exact uE | assumption | refine uN (by omega) ?_ | refine (hfz1 _ (by first | assumption | omega)).trans ?_ | fail)); done), ⟨by omega, by omega, by omega⟩, hst_1, (fun a_ ha_ => by repeat (first | exact hfam1 a_ ha_ | refine uN (by omega) ?_ | refine (hfz1 _ (by first | assumption | omega)).trans ?_ | fail)), (fun a_ h1_ h2_ => by repeat (first | exact hF0_3 a_ (by omega) h2_ | refine uN (by omega) ?_ | refine (hfz1 _ (by first | assumption | omega)).trans ?_ | fail))⟩
              · omega
              · (repeat' (first | exact trivial | refine ⟨⟨_, rfl, ?_⟩, ?_⟩ | fail)); all_goals (repeat' (first | exact VLe.refl _ | exact VLe.own_sl _ _ _ | exact VLe.fl_sl _ _ | exact VLe.nil_sl _ | exact VLe.nil_fl _ | exact VLes.refl _ | exact .nil | refine VLe.tup ?_ | refine VLe.agg ?_ | refine .cons ?_ ?_ | (rw [Int.natCast_add]; exact VLe.refl _) | exact vle_int (by omega) | exact vle_bool (by first | rfl | assumption | (simp_all; done) | fail) | (rw [← hq0_]; exact VLe.refl _) | (rw [hq0_]; exact VLe.refl _) | (rw [← hq1_]; exact VLe.refl _) | (rw [hq1_]; exact VLe.refl _) | fail))
          · skip
            refine rl0 (gn rfl) rfl rfl (step_mv rfl rfl) trivial ?_
            refine rl0 (gy rfl rfl rfl rfl rfl rfl) rfl rfl (step_fieldAddr (off := 0) rfl (ev_mk rfl) Try.underlying30 rfl F.sz3 rfl) trivial ?_
            refine' rl0 (gy rfl rfl rfl rfl rfl rfl) rfl rfl (step_load_one rfl (ev_mk rfl) F.one3 ?hv) ⟨?hb, trivial⟩ ?_
            case hb => repeat (first | exact uE | refine uN (by omega) ?_ | assumption | exact hd _ (by omega) | exact hd0 _ (by omega) | fail)
            case hv => rfl
            refine rl_eql (gy rfl rfl rfl rfl rfl rfl) rfl rfl rfl rfl rfl (fun h5 => ?_) (fun h5 => ?_)
            · skip
              refine rl0 (gn rfl) rfl rfl (step_pick rfl (ev_mk rfl) (ev_mk rfl)) trivial ?_
              refine rl0 (gn rfl) rfl rfl (step_as rfl rfl) trivial ?_
              refine runsL_nil ?_
              refine runs_cond true (ev_mk rfl) (fun _ => ?_) (fun h_ => nomatch h_)
              refine runs_seq ?_
              refine runs_region ?_
              refine rl0 (gn rfl) rfl rfl (step_mv rfl rfl) trivial ?_
              refine rl0 (gn rfl) rfl rfl (step_fieldAddr (off := 1) rfl (ev_mk rfl) Try.underlying30 rfl F.sz3 rfl) trivial ?_
              refine' rl0 (gn rfl) rfl rfl (step_load_one rfl (ev_mk rfl) F.one3 ?hv) ⟨?hb, trivial⟩ ?_
              case hb => repeat (first | exact uE | refine uN (by omega) ?_ | assumption | exact hd _ (by omega) | exact hd0 _ (by omega) | fail)
              case hv => rfl
              refine rl0 (gn rfl) rfl rfl (step_mv rfl rfl) trivial ?_
              refine rl0 (gn rfl) rfl rfl (step_len (m := c) rfl rfl (ev_mk rfl) (.inl ⟨⟨_, Try.underlying28⟩, .inl ⟨_, _, .inr (.inr ⟨_, rfl⟩), allR_len _ _⟩⟩)) trivial ?_
              refine rl0 (gn rfl) rfl rfl (step_build (ss := [1, 1]) (zs := [.int .i64 0, .int .i64 0]) rfl Try.underlying33 (by kernel_rfl) F.zero33 rfl rfl rfl) trivial ?_
              refine rl0 (gn rfl) rfl rfl (step_callc rfl Try.func9 rfl rfl rfl (insert_c m ⟨(at' l (i : Int)).k, c⟩ (by omega)) (by repeat (first | exact .nil | refine .cons ?_ ?_ | exact VLe.refl _ | exact vle_int (by omega) | exact vle_int (kgF_c _ _ _) | exact vle_int (kgF_c _ _ _).symm | exact VLe.own_sl _ _ _ | exact VLe.fl_sl _ _ | exact VLe.nil_sl _ | exact VLe.nil_fl _ | refine VLe.agg ?_))) trivial ?_
              refine rl0 (gn rfl) rfl rfl (step_as rfl rfl) trivial ?_
              refine runsL_nil ?_
              have hdd_ : b0 (n + 10 + c) = .dead := hF0_3 c (by omega) (by omega)
              refine runs_region ?_
              refine rl0 (gn rfl) rfl rfl (step_mv rfl rfl) trivial ?_
              refine rl0 (gn rfl) rfl rfl (step_mv rfl rfl) trivial ?_
              refine rl0 (gn rfl) rfl rfl (step_fieldAddr (off := 1) rfl (ev_mk rfl) Try.underlying30 rfl F.sz3 rfl) trivial ?_
              refine' rl0 (gn rfl) rfl rfl (step_load_one rfl (ev_mk rfl) F.one3 ?hv) ⟨?hb, trivial⟩ ?_
              case hb => repeat (first | exact uE | refine uN (by omega) ?_ | assumption | exact hd _ (by omega) | exact hd0 _ (by omega) | fail)
              case hv => rfl
              refine rl_fam (gn rfl) rfl rfl (step_callc rfl Try.func10 rfl rfl rfl (push_c (kgF kf c (at' l (i : Int)).k) h (n + 10) (n + 0) (n + 1) v L M c hF0_1.le (by omega) (by omega) hF0_1.inj (fun j_ h_ => hF0_1.lt j_ (by have := hF0_1.le; omega)) (by omega) (by omega) (by omega)) (by repeat (first | exact .nil | refine .cons ?_ ?_ | exact VLe.refl _ | exact vle_int (by omega) | exact vle_int (kgF_c _ _ _) | exact vle_int (kgF_c _ _ _).symm | exact VLe.own_sl _ _ _ | exact VLe.fl_sl _ _ | exact VLe.nil_sl _ | exact VLe.nil_fl _ | refine VLe.agg ?_))) ⟨by repeat (first | exact uE | refine uN (by omega) ?_ | assumption | exact hd _ (by omega) | exact hd0 _ (by omega) | fail), by repeat (first | exact uE | refine uN (by omega) ?_ | assumption | exact hd _ (by omega) | exact hd0 _ (by omega) | fail), by repeat (first | exact uE | refine uN (by omega) ?_ | assumption | exact hd _ (by omega) | exact hd0 _ (by omega) | fail), fam_ok (fam_kg (fun a_ ha_ => by repeat (first | exact hF0_2 a_ ha_ | refine uN (by omega) ?_ | fail)))⟩ (by repeat (first | exact trivial | refine ⟨by omega, ?_⟩)) (by omega) (fun bz2 hfam2 hfz2 => ?_)
              simp only [upds] at hfz2
              have hst_1 : Hst (kgF kf c (at' l (i : Int)).k) (upF (kgF kf c (at' l (i : Int)).k) L (upd1 h L c) L) (L + 1) (L + 1) (c + 1) (insR m ⟨(at' l (i : Int)).k, c⟩) := hF0_1.put
              refine rl0 (gn rfl) rfl rfl (step_lit rfl Try.underlying28 F.sz34 F.zero34 (by first | rfl | simp) (by first | rfl | simp | decide) (by decide) rfl rfl (by first | (simp [V.cs, V.stor, oneV]; done) | (simp [V.cs, V.stor, oneV])) rfl) trivial ?_
              refine' rl1 (gn rfl) rfl rfl (step_append_own rfl rfl rfl Try.underlying28 ⟨_, Try.underlying28, fun k_ => by intro h_; cases h_⟩ F.el34 (ev_mk rfl) (ev_mk rfl) (gives_sl (.inr (.inl rfl))) ?hg) ⟨?hb, trivial⟩ (by omega) ?_
              case hb => repeat (first | exact uE | refine uN (by omega) ?_ | assumption | exact hd _ (by omega) | exact hd0 _ (by omega) | refine (hfz2 _ (by first | assumption | omega)).trans ?_ | fail)
              case hg => (rw [allR_len]; show c + 1 ≤ 1073741824; omega)
              refine rl0 (gn rfl) rfl rfl (step_as rfl rfl) trivial ?_
              refine runsL_nil ?_
              refine runs_seq ?_
              have hst_ : Hst (kgF kf c (at' l (i : Int)).k) (upF (kgF kf c (at' l (i : Int)).k) L (upd1 h L c) L) (L + 1) (L + 1) (c + 1) (insR m ⟨(at' l (i : Int)).k, c⟩) := hst_1
              have hLm_ := hst_.rel.len
              have hrn_ := rmN_le h L (nIx (at' l (i : Int)).m c)
              refine runs_region ?_
              refine rl0 (gn rfl) rfl rfl (step_mv rfl rfl) trivial ?_
              refine rl0 (gn rfl) rfl rfl (step_callc rfl Try.func15 rfl rfl rfl (top_c (kgF kf c (at' l (i : Int)).k) (upF (kgF kf c (at' l (i : Int)).k) L (upd1 h L c) L) (n + 10) (n + 0) (n + 1) (v + 1) (L + 1) (L + 1) (c + 1) hst_.le hst_.lt) (by repeat (first | exact .nil | refine .cons ?_ ?_ | exact VLe.refl _ | exact vle_int (by omega) | exact vle_int (kgF_c _ _ _) | exact vle_int (kgF_c _ _ _).symm | exact VLe.own_sl _ _ _ | exact VLe.fl_sl _ _ | exact VLe.nil_sl _ | exact VLe.nil_fl _ | refine VLe.agg ?_))) ⟨by repeat (first | exact uE | refine uN (by omega) ?_ | assumption | exact hd _ (by omega) | exact hd0 _ (by omega) | refine (hfz2 _ (by first | assumption | omega)).trans ?_ | fail), by repeat (first | exact uE | refine uN (by omega) ?_ | assumption | exact hd _ (by omega) | exact hd0 _ (by omega) | refine (hfz2 _ (by first | assumption | omega)).trans ?_ | fail), fam_ok (fun a_ ha_ => by repeat (first | exact hfam2 a_ ha_ | refine uN (by omega) ?_ | refine (hfz2 _ (by first | assumption | omega)).trans ?_ | fail))⟩ ?_
              refine rl0 (gn rfl) rfl rfl (step_mv rfl rfl) trivial ?_
              refine rl0 (gn rfl) rfl rfl (step_extract rfl (ev_mk rfl) rfl) trivial ?_
              refine rl0 (gn rfl) rfl rfl (step_extract rfl (ev_mk rfl) rfl) trivial ?_
              refine rl0 (gn rfl) rfl rfl (step_as rfl rfl) trivial ?_
              refine rl0 (gn rfl) rfl rfl (step_as rfl rfl) trivial ?_
              refine runsL_nil ?_
              refine runs_seq ?_
              refine runs_region ?_
              refine rl0 (gn rfl) rfl rfl (step_mv rfl rfl) trivial ?_
              refine rl0 (gn rfl) rfl rfl (step_callc rfl Try.func16 rfl rfl rfl (len_c (n + 0) (n + 1) (v + 1) (L + 1) (c + 1)) (by repeat (first | exact .nil | refine .cons ?_ ?_ | exact VLe.refl _ | exact vle_int (by omega) | exact vle_int (kgF_c _ _ _) | exact vle_int (kgF_c _ _ _).symm | exact VLe.own_sl _ _ _ | exact VLe.fl_sl _ _ | exact VLe.nil_sl _ | exact VLe.nil_fl _ | refine VLe.agg ?_))) ⟨by repeat (first | exact uE | refine uN (by omega) ?_ | assumption | exact hd _ (by omega) | exact hd0 _ (by omega) | refine (hfz2 _ (by first | assumption | omega)).trans ?_ | fail), trivial⟩ ?_
              refine rl0 (gn rfl) rfl rfl (step_mv rfl rfl) trivial ?_
              refine rl0 (gn rfl) rfl rfl (step_len (m := (insR m ⟨(at' l (i : Int)).k, c⟩).length) rfl rfl (ev_mk rfl) (.inl ⟨⟨_, Try.underlying27⟩, .inl ⟨_, _, .inl rfl, List.length_map _⟩⟩)) trivial ?_
              refine rl_neq (gn rfl) rfl rfl rfl rfl rfl (fun h6 => ?_) (fun h6 => ?_)
              · exact False.elim (by omega)
              refine rl0 (gn rfl) rfl rfl (step_mv rfl rfl) trivial ?_
              refine rl0 (gy rfl rfl rfl rfl rfl rfl) rfl rfl (step_mv rfl rfl) trivial ?_
              refine rl0 (gy rfl rfl rfl rfl rfl rfl) rfl rfl (step_callc rfl Try.func17 rfl rfl rfl (sound_c (kgF kf c (at' l (i : Int)).k) (upF (kgF kf c (at' l (i : Int)).k) L (upd1 h L c) L) (n + 10) (n + 0) (n + 1) (v + 1) (L + 1) (L + 1) (c + 1) hst_.le (by omega) hst_.inj hst_.lt hst_.rel.hp) (by repeat (first | exact .nil | refine .cons ?_ ?_ | exact VLe.refl _ | exact vle_int (by omega) | exact vle_int (kgF_c _ _ _) | exact vle_int (kgF_c _ _ _).symm | exact VLe.own_sl _ _ _ | exact VLe.fl_sl _ _ | exact VLe.nil_sl _ | exact VLe.nil_fl _ | refine VLe.agg ?_))) ⟨by repeat (first | exact uE | refine uN (by omega) ?_ | assumption | exact hd _ (by omega) | exact hd0 _ (by omega) | refine (hfz2 _ (by first | assumption | omega)).trans ?_ | fail), by repeat (first | exact uE | refine uN (by omega) ?_ | assumption | exact hd _ (by omega) | exact hd0 _ (by omega) | refine (hfz2 _ (by first | assumption | omega)).trans ?_ | fail), fam_ok (fun a_ ha_ => by repeat (first | exact hfam2 a_ ha_ | refine uN (by omega) ?_ | refine (hfz2 _ (by first | assumption | omega)).trans ?_ | fail))⟩ ?_
              refine rl0 (gy rfl rfl rfl rfl rfl rfl) rfl rfl (step_unOp (c := .bool false) rfl (ev_mk rfl) (fun _ => rfl)) trivial ?_
              refine rl0 (gn rfl) rfl rfl (step_pick rfl (ev_mk rfl) (ev_mk rfl)) trivial ?_
              refine rl0 (gn rfl) rfl rfl (step_mv rfl rfl) trivial ?_
              refine rl0 (gy rfl rfl rfl rfl rfl rfl) rfl rfl (step_mv rfl rfl) trivial ?_
              refine rl0 (gy rfl rfl rfl rfl rfl rfl) rfl rfl (step_mv rfl rfl) trivial ?_
              refine rl0 (gy rfl rfl rfl rfl rfl rfl) rfl rfl (step_len (m := (insR m ⟨(at' l (i : Int)).k, c⟩).length) rfl rfl (ev_mk rfl) (.inl ⟨⟨_, Try.underlying27⟩, .inl ⟨_, _, .inl rfl, List.length_map _⟩⟩)) trivial ?_
              refine rl_gtr (gy rfl rfl rfl rfl rfl rfl) rfl rfl rfl rfl rfl (fun h7 => ?_) (fun h7 => ?_)
              · skip
                refine rl0 (gy rfl rfl rfl rfl rfl rfl) rfl rfl (step_neqb rfl (ev_mk rfl) (ev_mk rfl) Try.underlying4) trivial ?_
                refine rl_know (d := 170) (c := false) rfl (by rw [decide_eq_true (show 0 < L + 1 by omega)]; rfl) ?_
                refine rl0 (gn rfl) rfl rfl (step_pick rfl (ev_mk rfl) (ev_mk rfl)) trivial ?_
                refine rl0 (gn rfl) rfl rfl (step_mv rfl rfl) trivial ?_
                refine rl0 (gy rfl rfl rfl rfl rfl rfl) rfl rfl (step_mv rfl rfl) trivial ?_
                refine rl_know (d := 173) (c := true) rfl (decide_eq_true (by omega)) ?_
                refine rl0 (gy rfl rfl rfl rfl rfl rfl) rfl rfl (step_mv rfl rfl) trivial ?_
                refine rl0 (gy rfl rfl rfl rfl rfl rfl) rfl rfl (step_mv rfl rfl) trivial ?_
                refine rl0 (gy rfl rfl rfl rfl rfl rfl) rfl rfl (step_mv rfl rfl) trivial ?_
                refine' rl0 (gy rfl rfl rfl rfl rfl rfl) rfl rfl (step_index rfl (ev_mk rfl) (.inl rfl) (ev_mk rfl) Try.underlying27 F.sz33 (by omega) ?hr) trivial ?_
                case hr => exact map_at _ _ _ (by omega) (by omega)
                refine rl0 (gy rfl rfl rfl rfl rfl rfl) rfl rfl (step_fieldAddr_ro (off := 0) rfl (ev_mk rfl) Try.underlying33 rfl F.sz3 rfl rfl) trivial ?_
                refine rl0 (gy rfl rfl rfl rfl rfl rfl) rfl rfl (step_load_ro rfl (ev_mk rfl) F.one3 rfl) trivial ?_
                refine rl_neq (gy rfl rfl rfl rfl rfl rfl) rfl rfl rfl rfl rfl (fun h8 => ?_) (fun h8 => ?_)
                · exact False.elim (by exact absurd (hst_.top (by omega)).1 h8)
                refine rl0 (gy rfl rfl rfl rfl rfl rfl) rfl rfl (step_pick rfl (ev_mk rfl) (ev_mk rfl)) trivial ?_
                refine rl0 (gn rfl) rfl rfl (step_pick rfl (ev_mk rfl) (ev_mk rfl)) trivial ?_
                refine runsL_nil ?_
                refine runs_cond false (ev_mk rfl) (fun h_ => nomatch h_) (fun _ => ?_)
                refine runs_skip ?_
                refine runs_region ?_
                refine rl0 (gn rfl) rfl rfl (step_mv rfl rfl) trivial ?_
                refine rl0 (gn rfl) rfl rfl (step_add rfl (ev_mk rfl) (ev_mk rfl) (w64 (by omega))) trivial ?_
                refine rl0 (gn rfl) rfl rfl (step_as rfl rfl) trivial ?_
                refine runsL_nil ?_
                have hq0_ : (allR (n + 10) c) ++ [[V.ref ((n + 10) + c) 0]] = (allR (n + 10) (c + 1)) := by exact allR_s _ _
                have hq1_ : ((i : Int) + 1) = ((i + 1) : Int) := by omega
                refine ⟨_, _, ?_, sle ?_ (Nat.le_refl _), (i + 1), (L + 1), (L + 1), (v + 1), (c + 1), (upF (kgF kf c (at' l (i : Int)).k) L (upd1 h L c) L), (kgF kf c (at' l (i : Int)).k), (insR m ⟨(at' l (i : Int)).k, c⟩), _, _, rfl, rfl, by omega, (fun k_ hk_ => by repeat (first | exact hf0 k_ hk_ | refine (hfz2 _ (by first | assumption | omega)).trans ?_ | refine uN (by first | assumption | omega) ?_ | fail)), by first | ((repeat (first | exact uE | assumption | refine uN (by omega) ?_ | refine (hfz2 _ (by first | assumption | omega)).trans ?_ | fail)); done) | exact tl_eq (by repeat (first | exact uE | assumption | refine uN (by omega) ?_ | refine (hfz2 _ (by first | assumption | omega)).trans ?_ | fail)) (by first | rfl | (simp [bytesV, beB_len]; done) | (simp [bytesV, beB_len]; omega) | omega) | (rw [← hq0_]; (repeat (first | exact uE | assumption | refine uN (by omega) ?_ | refine (hfz2 _ (by first | assumption | omega)).trans ?_ | fail)); done) | (rw [← hq1_]; (repeat (first | exact uE | assumption | refine uN (by omega) ?_ | refine (hfz2 _ (by first | assumption | omega)).trans ?_ | fail)); done) | (rw [← hq0_, ← hq1_]; (repeat (first | exact uE | assumption | refine uN (by omega) ?_ | refine (hfz2 _ (by first | assumption | omega)).trans ?_ | fail)); done), by first | ((repeat (first | exact uE | assumption | refine uN (by omega) ?_ | refine (hfz2 _ (by first | assumption | omega)).trans ?_ | fail)); done) | exact tl_eq (by repeat (first | exact uE | assumption | refine uN (by omega) ?_ | refine (hfz2 _ (by first | assumption | omega)).trans ?_ | fail)) (by first | rfl | (simp [bytesV, beB_len]; done) | (simp [bytesV, beB_len]; omega) | omega) | (rw [← hq0_]; (repeat (first | exact uE | assumption | refine uN (by omega) ?_ | refine (hfz2 _ (by first | assumption | omega)).trans ?_ | fail)); done) | (rw [← hq1_]; (repeat (first | exact uE | assumption | refine uN (by omega) ?_ | refine (hfz2 _ (by first | assumption | omega)).trans ?_ | fail)); done) | (rw [← hq0_, ← hq1_]; (repeat (first | exact uE | assumption | refine uN (by omega) ?_ | refine (hfz2 _ (by first | assumption | omega)).trans ?_ | fail)); done), by first | ((repeat (first | exact uE | assumption | refine uN (by omega) ?_ | refine (hfz2 _ (by first | assumption | omega)).trans ?_ | fail)); done) | exact tl_eq (by repeat (first | exact uE | assumption | refine uN (by omega) ?_ | refine (hfz2 _ (by first | assumption | omega)).trans ?_ | fail)) (by first | rfl | (simp [bytesV, beB_len]; done) | (simp [bytesV, beB_len]; omega) | omega) | (rw [← hq0_]; (repeat (first | exact uE | assumption | refine uN (by omega) ?_ | refine (hfz2 _ (by first | assumption | omega)).trans ?_ | fail)); done) | (rw [← hq1_]; (repeat (first | exact uE | assumption | refine uN (by omega) ?_ | refine (hfz2 _ (by first | assumption | omega)).trans ?_ | fail)); done) | (rw [← hq0_, ← hq1_]; (repeat (first | exact uE | assumption | refine uN (by omega) ?_ | refine (hfz2 _ (by first | assumption | omega)).trans ?_ | fail)); done), ⟨by omega, by omega, by omega⟩, hst_1, (fun a_ ha_ => by repeat (first | exact hfam2 a_ ha_ | refine uN (by omega) ?_ | refine (hfz2 _ (by first | assumption | omega)).trans ?_ | fail)), (fun a_ h1_ h2_ => by repeat (first | exact hF0_3 a_ (by omega) h2_ | refine uN (by omega) ?_ | refine (hfz2 _ (by first | assumption | omega)).trans ?_ | fail))⟩
                · omega
                · (repeat' (first | exact trivial | refine ⟨⟨_, rfl, ?_⟩, ?_⟩ | fail)); all_goals (repeat' (first | exact VLe.refl _ | exact VLe.own_sl _ _ _ | exact VLe.fl_sl _ _ | exact VLe.nil_sl _ | exact VLe.nil_fl _ | exact VLes.refl _ | exact .nil | refine VLe.tup ?_ | refine VLe.agg ?_ | refine .cons ?_ ?_ | (rw [Int.natCast_add]; exact VLe.refl _) | exact vle_int (by omega) | exact vle_bool (by first | rfl | assumption | (simp_all; done) | fail) | (rw [← hq0_]; exact VLe.refl _) | (rw [hq0_]; exact VLe.refl _) | (rw [← hq1_]; exact VLe.refl _) | (rw [hq1_]; exact VLe.refl _) | fail))
              · skip
                refine rl0 (gy rfl rfl rfl rfl rfl rfl) rfl rfl (step_neqb rfl (ev_mk rfl) (ev_mk rfl) Try.underlying4) trivial ?_
                refine rl_know (d := 170) (c := false) rfl (by rw [decide_eq_false (show ¬ 0 < L + 1 by omega)]; rfl) ?_
                refine rl0 (gn rfl) rfl rfl (step_pick rfl (ev_mk rfl) (ev_mk rfl)) trivial ?_
                refine rl0 (gn rfl) rfl rfl (step_mv rfl rfl) trivial ?_
                refine rl0 (gy rfl rfl rfl rfl rfl rfl) rfl rfl (step_mv rfl rfl) trivial ?_
                refine rl_know (d := 173) (c := false) rfl (decide_eq_false (by omega)) ?_
                refine rl0 (gy rfl rfl rfl rfl rfl rfl) rfl rfl (step_mv rfl rfl) trivial ?_
                refine rlk rfl rfl rfl rfl rfl (ngb rfl rfl) rfl rfl ?_
                refine rlk rfl rfl rfl rfl rfl (ngb rfl rfl) rfl rfl ?_
                refine rlk rfl rfl rfl rfl rfl (ngb rfl rfl) rfl rfl ?_
                refine rlk rfl rfl rfl rfl rfl (ngb rfl rfl) rfl rfl ?_
                refine rlk rfl rfl rfl rfl rfl (ngb rfl rfl) rfl rfl ?_
                refine rlk rfl rfl rfl rfl rfl (ngb rfl rfl) rfl rfl ?_
                refine rl0 (gy rfl rfl rfl rfl rfl rfl) rfl rfl (step_pick rfl (ev_mk rfl) (ev_mk rfl)) trivial ?_
                refine rl0 (gn rfl) rfl rfl (step_pick rfl (ev_mk rfl) (ev_mk rfl)) trivial ?_
                refine runsL_nil ?_
                refine runs_cond false (ev_mk rfl) (fun h_ => nomatch h_) (fun _ => ?_)
                refine runs_skip ?_
                refine runs_region ?_
                refine rl0 (gn rfl) rfl rfl (step_mv rfl rfl) trivial ?_
                refine rl0 (gn rfl) rfl rfl (step_add rfl (ev_mk rfl) (ev_mk rfl) (w64 (by omega))) trivial ?_
                refine rl0 (gn rfl) rfl rfl (step_as rfl rfl) trivial ?_
                refine runsL_nil ?_
                have hq0_ : (allR (n + 10) c) ++ [[V.ref ((n + 10) + c) 0]] = (allR (n + 10) (c + 1)) := by exact allR_s _ _
                have hq1_ : ((i : Int) + 1) = ((i + 1) : Int) := by omega
                refine ⟨_, _, ?_, sle ?_ (Nat.le_refl _), (i + 1), (L + 1), (L + 1), (v + 1), (c + 1), (upF (kgF kf c (at' l (i : Int)).k) L (upd1 h L c) L), (kgF kf c (at' l (i : Int)).k), (insR m ⟨(at' l (i : Int)).k, c⟩), _, _, rfl, rfl, by omega, (fun k_ hk_ => by repeat (first | exact hf0 k_ hk_ | refine (hfz2 _ (by first | assumption | omega)).trans ?_ | refine uN (by first | assumption | omega) ?_ | fail)), by first | ((repeat (first | exact uE | assumption | refine uN (by omega) ?_ | refine (hfz2 _ (by first | assumption | omega)).trans ?_ | fail)); done) | exact tl_eq (by repeat (first | exact uE | assumption | refine uN (by omega) ?_ | refine (hfz2 _ (by first | assumption | omega)).trans ?_ | fail)) (by first | rfl | (simp [bytesV, beB_len]; done) | (simp [bytesV, beB_len]; omega) | omega) | (rw [← hq0_]; (repeat (first | exact uE | assumption | refine uN (by omega) ?_ | refine (hfz2 _ (by first | assumption | omega)).trans ?_ | fail)); done) | (rw [← hq1_]; (repeat (first | exact uE | assumption | refine uN (by omega) ?_ | refine (hfz2 _ (by first | assumption | omega)).trans ?_ | fail)); done) | (rw [← hq0_, ← hq1_]; (repeat (first | exact uE | assumption | refine uN (by omega) ?_ | refine (hfz2 _ (by first | assumption | omega)).trans ?_ | fail)); done), by first | ((repeat (first | exact uE | assumption | refine uN (by omega) ?_ | refine (hfz2 _ (by first | assumption | omega)).trans ?_ | fail)); done) | exact tl_eq (by repeat (first | exact uE | assumption | refine uN (by omega) ?_ | refine (hfz2 _ (by first | assumption | omega)).trans ?_ | fail)) (by first | rfl | (simp [bytesV, beB_len]; done) | (simp [bytesV, beB_len]; omega) | omega) | (rw [← hq0_]; (repeat (first | exact uE | assumption | refine uN (by omega) ?_ | refine (hfz2 _ (by first | assumption | omega)).trans ?_ | fail)); done) | (rw [← hq1_]; (repeat (first | exact uE | assumption | refine uN (by omega) ?_ | refine (hfz2 _ (by first | assumption | omega)).trans ?_ | fail)); done) | (rw [← hq0_, ← hq1_]; (repeat (first | exact uE | assumption | refine uN (by omega) ?_ | refine (hfz2 _ (by first | assumption | omega)).trans ?_ | fail)); done), by first | ((repeat (first | exact uE | assumption | refine uN (by omega) ?_ | refine (hfz2 _ (by first | assumption | omega)).trans ?_ | fail)); done) | exact tl_eq (by repeat (first | exact uE | assumption | refine uN (by omega) ?_ | refine (hfz2 _ (by first | assumption | omega)).trans ?_ | fail)) (by first | rfl | (simp [bytesV, beB_len]; done) | (simp [bytesV, beB_len]; omega) | omega) | (rw [← hq0_]; (repeat (first | exact uE | assumption | refine uN (by omega) ?_ | refine (hfz2 _ (by first | assumption | omega)).trans ?_ | fail)); done) | (rw [← hq1_]; (repeat (first | exact uE | assumption | refine uN (by omega) ?_ | refine (hfz2 _ (by first | assumption | omega)).trans ?_ | fail)); done) | (rw [← hq0_, ← hq1_]; (repeat (first | exact uE | assumption | refine uN (by omega) ?_ | refine (hfz2 _ (by first | assumption | omega)).trans ?_ | fail)); done), ⟨by omega, by omega, by omega⟩, hst_1, (fun a_ ha_ => by repeat (first | exact hfam2 a_ ha_ | refine uN (by omega) ?_ | refine (hfz2 _ (by first | assumption | omega)).trans ?_ | fail)), (fun a_ h1_ h2_ => by repeat (first | exact hF0_3 a_ (by omega) h2_ | refine uN (by omega) ?_ | refine (hfz2 _ (by first | assumption | omega)).trans ?_ | fail))⟩
                · omega
                · (repeat' (first | exact trivial | refine ⟨⟨_, rfl, ?_⟩, ?_⟩ | fail)); all_goals (repeat' (first | exact VLe.refl _ | exact VLe.own_sl _ _ _ | exact VLe.fl_sl _ _ | exact VLe.nil_sl _ | exact VLe.nil_fl _ | exact VLes.refl _ | exact .nil | refine VLe.tup ?_ | refine VLe.agg ?_ | refine .cons ?_ ?_ | (rw [Int.natCast_add]; exact VLe.refl _) | exact vle_int (by omega) | exact vle_bool (by first | rfl | assumption | (simp_all; done) | fail) | (rw [← hq0_]; exact VLe.refl _) | (rw [hq0_]; exact VLe.refl _) | (rw [← hq1_]; exact VLe.refl _) | (rw [hq1_]; exact VLe.refl _) | fail))
            · skip
              refine rl0 (gn rfl) rfl rfl (step_pick rfl (ev_mk rfl) (ev_mk rfl)) trivial ?_
              refine rl0 (gn rfl) rfl rfl (step_as rfl rfl) trivial ?_
              refine runsL_nil ?_
              refine runs_cond false (ev_mk rfl) (fun h_ => nomatch h_) (fun _ => ?_)
              refine runs_seq ?_
              refine runs_region ?_
              refine rl0 (gn rfl) rfl rfl (step_fieldAddr (off := 0) rfl (ev_mk rfl) Try.underlying30 rfl F.sz3 rfl) trivial ?_
              refine' rl0 (gn rfl) rfl rfl (step_load_one rfl (ev_mk rfl) F.one3 ?hv) ⟨?hb, trivial⟩ ?_
              case hb => repeat (first | exact uE | refine uN (by omega) ?_ | assumption | exact hd _ (by omega) | exact hd0 _ (by omega) | fail)
              case hv => rfl
              refine rl_eql (gn rfl) rfl rfl rfl rfl rfl (fun h6 => ?_) (fun h6 => ?_)
              · skip
                refine rl0 (gn rfl) rfl rfl (step_as rfl rfl) trivial ?_
                refine runsL_nil ?_
                refine runs_cond true (ev_mk rfl) (fun _ => ?_) (fun h_ => nomatch h_)
                refine runs_seq ?_
                refine runs_region ?_
                refine rl0 (gn rfl) rfl rfl (step_mv rfl rfl) trivial ?_
                refine rl_fam (gn rfl) rfl rfl (step_callc rfl Try.func11 rfl rfl rfl (pop_c kf h (n + 10) (n + 0) (n + 1) v L M c hF0_1.le (by omega) hF0_1.inj hF0_1.lt (by omega) (by omega) (by omega)) (by repeat (first | exact .nil | refine .cons ?_ ?_ | exact VLe.refl _ | exact vle_int (by omega) | exact vle_int (kgF_c _ _ _) | exact vle_int (kgF_c _ _ _).symm | exact VLe.own_sl _ _ _ | exact VLe.fl_sl _ _ | exact VLe.nil_sl _ | exact VLe.nil_fl _ | refine VLe.agg ?_))) ⟨by repeat (first | exact uE | refine uN (by omega) ?_ | assumption | exact hd _ (by omega) | exact hd0 _ (by omega) | fail), by repeat (first | exact uE | refine uN (by omega) ?_ | assumption | exact hd _ (by omega) | exact hd0 _ (by omega) | fail), fam_ok (fun a_ ha_ => by repeat (first | exact hF0_2 a_ ha_ | refine uN (by omega) ?_ | fail))⟩ (by repeat (first | exact trivial | refine ⟨by omega, ?_⟩)) (by omega) (fun bz3 hfam3 hfz3 => ?_)
                simp only [upds] at hfz3
                refine rl0 (gn rfl) rfl rfl (step_mv rfl rfl) trivial ?_
                refine rl0 (gn rfl) rfl rfl (step_extract rfl (ev_mk rfl) rfl) trivial ?_
                refine rl0 (gn rfl) rfl rfl (step_extract rfl (ev_mk rfl) rfl) trivial ?_
                refine rl0 (gn rfl) rfl rfl (step_as rfl rfl) trivial ?_
                refine rl0 (gn rfl) rfl rfl (step_as rfl rfl) trivial ?_
                refine runsL_nil ?_
                refine runs_seq ?_
                refine runs_seq ?_
                refine runs_region ?_
                refine rl0 (gn rfl) rfl rfl (step_mv rfl rfl) trivial ?_
                refine rl0 (gn rfl) rfl rfl (step_mv rfl rfl) trivial ?_
                refine rl0 (gn rfl) rfl rfl (step_len (m := m.length) rfl rfl (ev_mk rfl) (.inl ⟨⟨_, Try.underlying27⟩, .inl ⟨_, _, .inl rfl, List.length_map _⟩⟩)) trivial ?_
                refine rl_gtr (gn rfl) rfl rfl rfl rfl rfl (fun h7 => ?_) (fun h7 => ?_)
                · skip
                  refine rl0 (gn rfl) rfl rfl (step_neqb rfl (ev_mk rfl) (ev_mk rfl) Try.underlying4) trivial ?_
                  refine rl_know (d := 84) (c := false) rfl (by rw [decide_eq_true (show 0 < L by omega)]; rfl) ?_
                  refine rl0 (gn rfl) rfl rfl (step_mv rfl rfl) trivial ?_
                  refine rl0 (gy rfl rfl rfl rfl rfl rfl) rfl rfl (step_mv rfl rfl) trivial ?_
                  refine rl_know (d := 86) (c := true) rfl (decide_eq_true (by omega)) ?_
                  refine rl0 (gy rfl rfl rfl rfl rfl rfl) rfl rfl (step_mv rfl rfl) trivial ?_
                  refine rl0 (gy rfl rfl rfl rfl rfl rfl) rfl rfl (step_mv rfl rfl) trivial ?_
                  refine rl0 (gy rfl rfl rfl rfl rfl rfl) rfl rfl (step_mv rfl rfl) trivial ?_
                  refine' rl0 (gy rfl rfl rfl rfl rfl rfl) rfl rfl (step_index rfl (ev_mk rfl) (.inl rfl) (ev_mk rfl) Try.underlying27 F.sz33 (by omega) ?hr) trivial ?_
                  case hr => exact map_at _ _ _ (by omega) (by omega)
                  refine rl0 (gy rfl rfl rfl rfl rfl rfl) rfl rfl (step_fieldAddr_ro (off := 0) rfl (ev_mk rfl) Try.underlying33 rfl F.sz3 rfl rfl) trivial ?_
                  refine rl0 (gy rfl rfl rfl rfl rfl rfl) rfl rfl (step_load_ro rfl (ev_mk rfl) F.one3 rfl) trivial ?_
                  refine rl_neq (gy rfl rfl rfl rfl rfl rfl) rfl rfl rfl rfl rfl (fun h8 => ?_) (fun h8 => ?_)
                  · exact False.elim (by exact absurd (hF0_1.top (by omega)).1 h8)
                  refine rl0 (gy rfl rfl rfl rfl rfl rfl) rfl rfl (step_pick rfl (ev_mk rfl) (ev_mk rfl)) trivial ?_
                  refine rl0 (gn rfl) rfl rfl (step_pick rfl (ev_mk rfl) (ev_mk rfl)) trivial ?_
                  refine runsL_nil ?_
                  refine runs_cond false (ev_mk rfl) (fun h_ => nomatch h_) (fun _ => ?_)
                  refine runs_skip ?_
                  refine runs_seq ?_
                  have hst_1 : Hst kf (popH kf h L) (L - 1) M c (m.drop 1) := (hF0_1.pop (by omega))
                  refine runs_region ?_
                  refine rl0 (gn rfl) rfl rfl (step_mv rfl rfl) trivial ?_
                  refine rl_know (d := 96) (c := true) rfl (decide_eq_true (by omega)) ?_
                  refine runsL_nil ?_
                  refine runs_cond true (ev_mk rfl) (fun _ => ?_) (fun h_ => nomatch h_)
                  refine runs_region ?_
                  refine rl0 (gn rfl) rfl rfl (step_mv rfl rfl) trivial ?_
                  refine rl0 (gn rfl) rfl rfl (step_slice (ys := ((m.drop 1).map itR)) (l := 1) (h := (m.map itR).length) rfl (ev_mk rfl) (.inl rfl) Try.underlying27 F.sz33 (bndLo_nat (a := 1) rfl (by first | omega | (split <;> omega) | (first | (simp; done) | (simp; omega) | omega))) bndHi_none (by first | omega | exact Nat.zero_le _ | (simp; omega) | (first | (simp; done) | (simp; omega) | omega)) (by first | omega | (simp; omega) | (first | (simp; done) | (simp; omega) | omega)) (by rw [List.take_length, List.map_drop])) trivial ?_
                  refine rl0 (gn rfl) rfl rfl (step_as rfl rfl) trivial ?_
                  refine runsL_nil ?_
                  refine runs_seq ?_
                  have hst_ : Hst kf (popH kf h L) (L - 1) M c (m.drop 1) := hst_1
                  have hLm_ := hst_.rel.len
                  have hrn_ := rmN_le h L (nIx (at' l (i : Int)).m c)
                  refine runs_region ?_
                  refine rl0 (gn rfl) rfl rfl (step_mv rfl rfl) trivial ?_
                  refine rl0 (gn rfl) rfl rfl (step_callc rfl Try.func15 rfl rfl rfl (top_c kf (popH kf h L) (n + 10) (n + 0) (n + 1) v (L - 1) M c hst_.le hst_.lt) (by repeat (first | exact .nil | refine .cons ?_ ?_ | exact VLe.refl _ | exact vle_int (by omega) | exact vle_int (kgF_c _ _ _) | exact vle_int (kgF_c _ _ _).symm | exact VLe.own_sl _ _ _ | exact VLe.fl_sl _ _ | exact VLe.nil_sl _ | exact VLe.nil_fl _ | refine VLe.agg ?_))) ⟨by repeat (first | exact uE | refine uN (by omega) ?_ | assumption | exact hd _ (by omega) | exact hd0 _ (by omega) | refine (hfz3 _ (by first | assumption | omega)).trans ?_ | fail), by repeat (first | exact uE | refine uN (by omega) ?_ | assumption | exact hd _ (by omega) | exact hd0 _ (by omega) | refine (hfz3 _ (by first | assumption | omega)).trans ?_ | fail), fam_ok (fun a_ ha_ => by repeat (first | exact hfam3 a_ ha_ | refine uN (by omega) ?_ | refine (hfz3 _ (by first | assumption | omega)).trans ?_ | fail))⟩ ?_
                  refine rl0 (gn rfl) rfl rfl (step_mv rfl rfl) trivial ?_
                  refine rl0 (gn rfl) rfl rfl (step_extract rfl (ev_mk rfl) rfl) trivial ?_
                  refine rl0 (gn rfl) rfl rfl (step_extract rfl (ev_mk rfl) rfl) trivial ?_
                  refine rl0 (gn rfl) rfl rfl (step_as rfl rfl) trivial ?_
                  refine rl0 (gn rfl) rfl rfl (step_as rfl rfl) trivial ?_
                  refine runsL_nil ?_
                  refine runs_seq ?_
                  refine runs_region ?_
                  refine rl0 (gn rfl) rfl rfl (step_mv rfl rfl) trivial ?_
                  refine rl0 (gn rfl) rfl rfl (step_callc rfl Try.func16 rfl rfl rfl (len_c (n + 0) (n + 1) v (L - 1) c) (by repeat (first | exact .nil | refine .cons ?_ ?_ | exact VLe.refl _ | exact vle_int (by omega) | exact vle_int (kgF_c _ _ _) | exact vle_int (kgF_c _ _ _).symm | exact VLe.own_sl _ _ _ | exact VLe.fl_sl _ _ | exact VLe.nil_sl _ | exact VLe.nil_fl _ | refine VLe.agg ?_))) ⟨by repeat (first | exact uE | refine uN (by omega) ?_ | assumption | exact hd _ (by omega) | exact hd0 _ (by omega) | refine (hfz3 _ (by first | assumption | omega)).trans ?_ | fail), trivial⟩ ?_
                  refine rl0 (gn rfl) rfl rfl (step_mv rfl rfl) trivial ?_
                  refine rl0 (gn rfl) rfl rfl (step_len (m := (m.drop 1).length) rfl rfl (ev_mk rfl) (.inl ⟨⟨_, Try.underlying27⟩, .inl ⟨_, _, .inl rfl, List.length_map _⟩⟩)) trivial ?_
                  refine rl_neq (gn rfl) rfl rfl rfl rfl rfl (fun h9 => ?_) (fun h9 => ?_)
                  · exact False.elim (by omega)
                  refine rl0 (gn rfl) rfl rfl (step_mv rfl rfl) trivial ?_
                  refine rl0 (gy rfl rfl rfl rfl rfl rfl) rfl rfl (step_mv rfl rfl) trivial ?_
                  refine rl0 (gy rfl rfl rfl rfl rfl rfl) rfl rfl (step_callc rfl Try.func17 rfl rfl rfl (sound_c kf (popH kf h L) (n + 10) (n + 0) (n + 1) v (L - 1) M c hst_.le (by omega) hst_.inj hst_.lt hst_.rel.hp) (by repeat (first | exact .nil | refine .cons ?_ ?_ | exact VLe.refl _ | exact vle_int (by omega) | exact vle_int (kgF_c _ _ _) | exact vle_int (kgF_c _ _ _).symm | exact VLe.own_sl _ _ _ | exact VLe.fl_sl _ _ | exact VLe.nil_sl _ | exact VLe.nil_fl _ | refine VLe.agg ?_))) ⟨by repeat (first | exact uE | refine uN (by omega) ?_ | assumption | exact hd _ (by omega) | exact hd0 _ (by omega) | refine (hfz3 _ (by first | assumption | omega)).trans ?_ | fail), by repeat (first | exact uE | refine uN (by omega) ?_ | assumption | exact hd _ (by omega) | exact hd0 _ (by omega) | refine (hfz3 _ (by first | assumption | omega)).trans ?_ | fail), fam_ok (fun a_ ha_ => by repeat (first | exact hfam3 a_ ha_ | refine uN (by omega) ?_ | refine (hfz3 _ (by first | assumption | omega)).trans ?_ | fail))⟩ ?_
                  refine rl0 (gy rfl rfl rfl rfl rfl rfl) rfl rfl (step_unOp (c := .bool false) rfl (ev_mk rfl) (fun _ => rfl)) trivial ?_
                  refine rl0 (gn rfl) rfl rfl (step_pick rfl (ev_mk rfl) (ev_mk rfl)) trivial ?_
                  refine rl0 (gn rfl) rfl rfl (step_mv rfl rfl) trivial ?_
                  refine rl0 (gy rfl rfl rfl rfl rfl rfl) rfl rfl (step_mv rfl rfl) trivial ?_
                  refine rl0 (gy rfl rfl rfl rfl rfl rfl) rfl rfl (step_mv rfl rfl) trivial ?_
                  refine rl0 (gy rfl rfl rfl rfl rfl rfl) rfl rfl (step_len (m := (m.drop 1).length) rfl rfl (ev_mk rfl) (.inl ⟨⟨_, Try.underlying27⟩, .inl ⟨_, _, .inl rfl, List.length_map _⟩⟩)) trivial ?_
                  refine rl_gtr (gy rfl rfl rfl rfl rfl rfl) rfl rfl rfl rfl rfl (fun h10 => ?_) (fun h10 => ?_)
                  · skip
                    refine rl0 (gy rfl rfl rfl rfl rfl rfl) rfl rfl (step_neqb rfl (ev_mk rfl) (ev_mk rfl) Try.underlying4) trivial ?_
                    refine rl_know (d := 170) (c := false) rfl (by rw [decide_eq_true (show 0 < L - 1 by omega)]; rfl) ?_
                    refine rl0 (gn rfl) rfl rfl (step_pick rfl (ev_mk rfl) (ev_mk rfl)) trivial ?_
                    refine rl0 (gn rfl) rfl rfl (step_mv rfl rfl) trivial ?_
                    refine rl0 (gy rfl rfl rfl rfl rfl rfl) rfl rfl (step_mv rfl rfl) trivial ?_
                    refine rl_know (d := 173) (c := true) rfl (decide_eq_true (by omega)) ?_
                    refine rl0 (gy rfl rfl rfl rfl rfl rfl) rfl rfl (step_mv rfl rfl) trivial ?_
                    refine rl0 (gy rfl rfl rfl rfl rfl rfl) rfl rfl (step_mv rfl rfl) trivial ?_
                    refine rl0 (gy rfl rfl rfl rfl rfl rfl) rfl rfl (step_mv rfl rfl) trivial ?_
                    refine' rl0 (gy rfl rfl rfl rfl rfl rfl) rfl rfl (step_index rfl (ev_mk rfl) (.inl rfl) (ev_mk rfl) Try.underlying27 F.sz33 (by omega) ?hr) trivial ?_
                    case hr => exact map_at _ _ _ (by omega) (by omega)
                    refine rl0 (gy rfl rfl rfl rfl rfl rfl) rfl rfl (step_fieldAddr_ro (off := 0) rfl (ev_mk rfl) Try.underlying33 rfl F.sz3 rfl rfl) trivial ?_
                    refine rl0 (gy rfl rfl rfl rfl rfl rfl) rfl rfl (step_load_ro rfl (ev_mk rfl) F.one3 rfl) trivial ?_
                    refine rl_neq (gy rfl rfl rfl rfl rfl rfl) rfl rfl rfl rfl rfl (fun h11 => ?_) (fun h11 => ?_)
                    · exact False.elim (by exact absurd (hst_.top (by omega)).1 h11)
                    refine rl0 (gy rfl rfl rfl rfl rfl rfl) rfl rfl (step_pick rfl (ev_mk rfl) (ev_mk rfl)) trivial ?_
                    refine rl0 (gn rfl) rfl rfl (step_pick rfl (ev_mk rfl) (ev_mk rfl)) trivial ?_
                    refine runsL_nil ?_
                    refine runs_cond false (ev_mk rfl) (fun h_ => nomatch h_) (fun _ => ?_)
                    refine runs_skip ?_
                    refine runs_region ?_
                    refine rl0 (gn rfl) rfl rfl (step_mv rfl rfl) trivial ?_
                    refine rl0 (gn rfl) rfl rfl (step_add rfl (ev_mk rfl) (ev_mk rfl) (w64 (by omega))) trivial ?_
                    refine rl0 (gn rfl) rfl rfl (step_as rfl rfl) trivial ?_
                    refine runsL_nil ?_
                    have hq0_ : ((i : Int) + 1) = ((i + 1) : Int) := by omega
                    refine ⟨_, _, ?_, sle ?_ (Nat.le_refl _), (i + 1), (L - 1), M, v, c, (popH kf h L), kf, (m.drop 1), _, _, rfl, rfl, by omega, (fun k_ hk_ => by repeat (first | exact hf0 k_ hk_ | refine (hfz3 _ (by first | assumption | omega)).trans ?_ | refine uN (by first | assumption | omega) ?_ | fail)), by first | ((repeat (first | exact uE | assumption | refine uN (by omega) ?_ | refine (hfz3 _ (by first | assumption | omega)).trans ?_ | fail)); done) | exact tl_eq (by repeat (first | exact uE | assumption | refine uN (by omega) ?_ | refine (hfz3 _ (by first | assumption | omega)).trans ?_ | fail)) (by first | rfl | (simp [bytesV, beB_len]; done) | (simp [bytesV, beB_len]; omega) | omega) | (rw [← hq0_]; (repeat (first | exact uE | assumption | refine uN (by omega) ?_ | refine (hfz3 _ (by first | assumption | omega)).trans ?_ | fail)); done), by first | ((repeat (first | exact uE | assumption | refine uN (by omega) ?_ | refine (hfz3 _ (by first | assumption | omega)).trans ?_ | fail)); done) | exact tl_eq (by repeat (first | exact uE | assumption | refine uN (by omega) ?_ | refine (hfz3 _ (by first | assumption | omega)).trans ?_ | fail)) (by first | rfl | (simp [bytesV, beB_len]; done) | (simp [bytesV, beB_len]; omega) | omega) | (rw [← hq0_]; (repeat (first | exact uE | assumption | refine uN (by omega) ?_ | refine (hfz3 _ (by first | assumption | omega)).trans ?_ | fail)); done), by first | ((repeat (first | exact uE | assumption | refine uN (by omega) ?_ | refine (hfz3 _ (by first | assumption | omega)).trans ?_ | fail)); done) | exact tl_eq (by repeat (first | exact uE | assumption | refine uN (by omega) ?_ | refine (hfz3 _ (by first | assumption | omega)).trans ?_ | fail)) (by first | rfl | (simp [bytesV, beB_len]; done) | (simp [bytesV, beB_len]; omega) | omega) | (rw [← hq0_]; (repeat (first | exact uE | assumption | refine uN (by omega) ?_ | refine (hfz3 _ (by first | assumption | omega)).trans ?_ | fail)); done), ⟨by omega, by omega, by omega⟩, hst_1, (fun a_ ha_ => by repeat (first | exact hfam3 a_ ha_ | refine uN (by omega) ?_ | refine (hfz3 _ (by first | assumption | omega)).trans ?_ | fail)), (fun a_ h1_ h2_ => by repeat (first | exact hF0_3 a_ (by omega) h2_ | refine uN (by omega) ?_ | refine (hfz3 _ (by first | assumption | omega)).trans ?_ | fail))⟩
                    · omega
                    · (repeat' (first | exact trivial | refine ⟨⟨_, rfl, ?_⟩, ?_⟩ | fail)); all_goals (repeat' (first | exact VLe.refl _ | exact VLe.own_sl _ _ _ | exact VLe.fl_sl _ _ | exact VLe.nil_sl _ | exact VLe.nil_fl _ | exact VLes.refl _ | exact .nil | refine VLe.tup ?_ | refine VLe.agg ?_ | refine .cons ?_ ?_ | (rw [Int.natCast_add]; exact VLe.refl _) | exact vle_int (by omega) | exact vle_bool (by first | rfl | assumption | (simp_all; done) | fail) | (rw [← hq0_]; exact VLe.refl _) | (rw [hq0_]; exact VLe.refl _) | fail))
                  · skip
                    refine rl0 (gy rfl rfl rfl rfl rfl rfl) rfl rfl (step_neqb rfl (ev_mk rfl) (ev_mk rfl) Try.underlying4) trivial ?_
                    refine rl_know (d := 170) (c := false) rfl (by rw [decide_eq_false (show ¬ 0 < L - 1 by omega)]; rfl) ?_
                    refine rl0 (gn rfl) rfl rfl (step_pick rfl (ev_mk rfl) (ev_mk rfl)) trivial ?_
                    refine rl0 (gn rfl) rfl rfl (step_mv rfl rfl) trivial ?_
                    refine rl0 (gy rfl rfl rfl rfl rfl rfl) rfl rfl (step_mv rfl rfl) trivial ?_
                    refine rl_know (d := 173) (c := false) rfl (decide_eq_false (by omega)) ?_
                    refine rl0 (gy rfl rfl rfl rfl rfl rfl) rfl rfl (step_mv rfl rfl) trivial ?_
                    refine rlk rfl rfl rfl rfl rfl (ngb rfl rfl) rfl rfl ?_
                    refine rlk rfl rfl rfl rfl rfl (ngb rfl rfl) rfl rfl ?_
                    refine rlk rfl rfl rfl rfl rfl (ngb rfl rfl) rfl rfl ?_
                    refine rlk rfl rfl rfl rfl rfl (ngb rfl rfl) rfl rfl ?_
                    refine rlk rfl rfl rfl rfl rfl (ngb rfl rfl) rfl rfl ?_
                    refine rlk rfl rfl rfl rfl rfl (ngb rfl rfl) rfl rfl ?_
                    refine rl0 (gy rfl rfl rfl rfl rfl rfl) rfl rfl (step_pick rfl (ev_mk rfl) (ev_mk rfl)) trivial ?_
                    refine rl0 (gn rfl) rfl rfl (step_pick rfl (ev_mk rfl) (ev_mk rfl)) trivial ?_
                    refine runsL_nil ?_
                    refine runs_cond false (ev_mk rfl) (fun h_ => nomatch h_) (fun _ => ?_)
                    refine runs_skip ?_
                    refine runs_region ?_
                    refine rl0 (gn rfl) rfl rfl (step_mv rfl rfl) trivial ?_
                    refine rl0 (gn rfl) rfl rfl (step_add rfl (ev_mk rfl) (ev_mk rfl) (w64 (by omega))) trivial ?_
                    refine rl0 (gn rfl) rfl rfl (step_as rfl rfl) trivial ?_
                    refine runsL_nil ?_
                    have hq0_ : ((i : Int) + 1) = ((i + 1) : Int) := by omega
                    refine ⟨_, _, ?_, sle ?_ (Nat.le_refl _), (i + 1), (L - 1), M, v, c, (popH kf h L), kf, (m.drop 1), _, _, rfl, rfl, by omega, (fun k_ hk_ => by repeat (first | exact hf0 k_ hk_ | refine (hfz3 _ (by first | assumption | omega)).trans ?_ | refine uN (by first | assumption | omega) ?_ | fail)), by first | ((repeat (first | exact uE | assumption | refine uN (by omega) ?_ | refine (hfz3 _ (by first | assumption | omega)).trans ?_ | fail)); done) | exact tl_eq (by repeat (first | exact uE | assumption | refine uN (by omega) ?_ | refine (hfz3 _ (by first | assumption | omega)).trans ?_ | fail)) (by first | rfl | (simp [bytesV, beB_len]; done) | (simp [bytesV, beB_len]; omega) | omega) | (rw [← hq0_]; (repeat (first | exact uE | assumption | refine uN (by omega) ?_ | refine (hfz3 _ (by first | assumption | omega)).trans ?_ | fail)); done), by first | ((repeat (first | exact uE | assumption | refine uN (by omega) ?_ | refine (hfz3 _ (by first | assumption | omega)).trans ?_ | fail)); done) | exact tl_eq (by repeat (first | exact uE | assumption | refine uN (by omega) ?_ | refine (hfz3 _ (by first | assumption | omega)).trans ?_ | fail)) (by first | rfl | (simp [bytesV, beB_len]; done) | (simp [bytesV, beB_len]; omega) | omega) | (rw [← hq0_]; (repeat (first | exact uE | assumption | refine uN (by omega) ?_ | refine (hfz3 _ (by first | assumption | omega)).trans ?_ | fail)); done), by first | ((repeat (first | exact uE | assumption | refine uN (by omega) ?_ | refine (hfz3 _ (by first | assumption | omega)).trans ?_ | fail)); done) | exact tl_eq (by repeat (first | exact uE | assumption | refine uN (by omega) ?_ | refine (hfz3 _ (by first | assumption | omega)).trans ?_ | fail)) (by first | rfl | (simp [bytesV, beB_len]; done) | (simp [bytesV, beB_len]; omega) | omega) | (rw [← hq0_]; (repeat (first | exact uE | assumption | refine uN (by omega) ?_ | refine (hfz3 _ (by first | assumption | omega)).trans ?_ | fail)); done), ⟨by omega, by omega, by omega⟩, hst_1, (fun a_ ha_ => by repeat (first | exact hfam3 a_ ha_ | refine uN (by omega) ?_ | refine (hfz3 _ (by first | assumption | omega)).trans ?_ | fail)), (fun a_ h1_ h2_ => by repeat (first | exact hF0_3 a_ (by omega) h2_ | refine uN (by omega) ?_ | refine (hfz3 _ (by first | assumption | omega)).trans ?_ | fail))⟩
                    · omega
                    · (repeat' (first | exact trivial | refine ⟨⟨_, rfl, ?_⟩, ?_⟩ | fail)); all_goals (repeat' (first | exact VLe.refl _ | exact VLe.own_sl _ _ _ | exact VLe.fl_sl _ _ | exact VLe.nil_sl _ | exact VLe.nil_fl _ | exact VLes.refl _ | exact .nil | refine VLe.tup ?_ | refine VLe.agg ?_ | refine .cons ?_ ?_ | (rw [Int.natCast_add]; exact VLe.refl _) | exact vle_int (by omega) | exact vle_bool (by first | rfl | assumption | (simp_all; done) | fail) | (rw [← hq0_]; exact VLe.refl _) | (rw [hq0_]; exact VLe.refl _) | fail))
                · skip
                  refine rl0 (gn rfl) rfl rfl (step_neqb rfl (ev_mk rfl) (ev_mk rfl) Try.underlying4) trivial ?_
                  refine rl_know (d := 84) (c := false) rfl (by rw [decide_eq_false (show ¬ 0 < L by omega)]; rfl) ?_
                  refine rl0 (gn rfl) rfl rfl (step_mv rfl rfl) trivial ?_
                  refine rl0 (gy rfl rfl rfl rfl rfl rfl) rfl rfl (step_mv rfl rfl) trivial ?_
                  refine rl_know (d := 86) (c := false) rfl (decide_eq_false (by omega)) ?_
                  refine rl0 (gy rfl rfl rfl rfl rfl rfl) rfl rfl (step_mv rfl rfl) trivial ?_
                  refine rlk rfl rfl rfl rfl rfl (ngb rfl rfl) rfl rfl ?_
                  refine rlk rfl rfl rfl rfl rfl (ngb rfl rfl) rfl rfl ?_
                  refine rlk rfl rfl rfl rfl rfl (ngb rfl rfl) rfl rfl ?_
                  refine rlk rfl rfl rfl rfl rfl (ngb rfl rfl) rfl rfl ?_
                  refine rlk rfl rfl rfl rfl rfl (ngb rfl rfl) rfl rfl ?_
                  refine rlk rfl rfl rfl rfl rfl (ngb rfl rfl) rfl rfl ?_
                  refine rl0 (gy rfl rfl rfl rfl rfl rfl) rfl rfl (step_pick rfl (ev_mk rfl) (ev_mk rfl)) trivial ?_
                  refine rl0 (gn rfl) rfl rfl (step_pick rfl (ev_mk rfl) (ev_mk rfl)) trivial ?_
                  refine runsL_nil ?_
                  refine runs_cond false (ev_mk rfl) (fun h_ => nomatch h_) (fun _ => ?_)
                  refine runs_skip ?_
                  refine runs_seq ?_
                  have hst_1 : Hst kf (popH kf h L) (L - 1) M c m := (by have e_ : L = 0 := (by omega); subst e_; exact hF0_1)
                  refine runs_region ?_
                  refine rl0 (gn rfl) rfl rfl (step_mv rfl rfl) trivial ?_
                  refine rl_know (d := 96) (c := false) rfl (decide_eq_false (by omega)) ?_
                  refine runsL_nil ?_
                  refine runs_cond false (ev_mk rfl) (fun h_ => nomatch h_) (fun _ => ?_)
                  refine runs_skip ?_
                  refine runs_seq ?_
                  have hst_ : Hst kf (popH kf h L) (L - 1) M c m := hst_1
                  have hLm_ := hst_.rel.len
                  have hrn_ := rmN_le h L (nIx (at' l (i : Int)).m c)
                  refine runs_region ?_
                  refine rl0 (gn rfl) rfl rfl (step_mv rfl rfl) trivial ?_
                  refine rl0 (gn rfl) rfl rfl (step_callc rfl Try.func15 rfl rfl rfl (top_c kf (popH kf h L) (n + 10) (n + 0) (n + 1) v (L - 1) M c hst_.le hst_.lt) (by repeat (first | exact .nil | refine .cons ?_ ?_ | exact VLe.refl _ | exact vle_int (by omega) | exact vle_int (kgF_c _ _ _) | exact vle_int (kgF_c _ _ _).symm | exact VLe.own_sl _ _ _ | exact VLe.fl_sl _ _ | exact VLe.nil_sl _ | exact VLe.nil_fl _ | refine VLe.agg ?_))) ⟨by repeat (first | exact uE | refine uN (by omega) ?_ | assumption | exact hd _ (by omega) | exact hd0 _ (by omega) | refine (hfz3 _ (by first | assumption | omega)).trans ?_ | fail), by repeat (first | exact uE | refine uN (by omega) ?_ | assumption | exact hd _ (by omega) | exact hd0 _ (by omega) | refine (hfz3 _ (by first | assumption | omega)).trans ?_ | fail), fam_ok (fun a_ ha_ => by repeat (first | exact hfam3 a_ ha_ | refine uN (by omega) ?_ | refine (hfz3 _ (by first | assumption | omega)).trans ?_ | fail))⟩ ?_
                  refine rl0 (gn rfl) rfl rfl (step_mv rfl rfl) trivial ?_
                  refine rl0 (gn rfl) rfl rfl (step_extract rfl (ev_mk rfl) rfl) trivial ?_
                  refine rl0 (gn rfl) rfl rfl (step_extract rfl (ev_mk rfl) rfl) trivial ?_
                  refine rl0 (gn rfl) rfl rfl (step_as rfl rfl) trivial ?_
                  refine rl0 (gn rfl) rfl rfl (step_as rfl rfl) trivial ?_
                  refine runsL_nil ?_
                  refine runs_seq ?_
                  refine runs_region ?_
                  refine rl0 (gn rfl) rfl rfl (step_mv rfl rfl) trivial ?_
                  refine rl0 (gn rfl) rfl rfl (step_callc rfl Try.func16 rfl rfl rfl (len_c (n + 0) (n + 1) v (L - 1) c) (by repeat (first | exact .nil | refine .cons ?_ ?_ | exact VLe.refl _ | exact vle_int (by omega) | exact vle_int (kgF_c _ _ _) | exact vle_int (kgF_c _ _ _).symm | exact VLe.own_sl _ _ _ | exact VLe.fl_sl _ _ | exact VLe.nil_sl _ | exact VLe.nil_fl _ | refine VLe.agg ?_))) ⟨by repeat (first | exact uE | refine uN (by omega) ?_ | assumption | exact hd _ (by omega) | exact hd0 _ (by omega) | refine (hfz3 _ (by first | assumption | omega)).trans ?_ | fail), trivial⟩ ?_
                  refine rl0 (gn rfl) rfl rfl (step_mv rfl rfl) trivial ?_
                  refine rl0 (gn rfl) rfl rfl (step_len (m := m.length) rfl rfl (ev_mk rfl) (.inl ⟨⟨_, Try.underlying27⟩, .inl ⟨_, _, .inl rfl, List.length_map _⟩⟩)) trivial ?_
                  refine rl_neq (gn rfl) rfl rfl rfl rfl rfl (fun h8 => ?_) (fun h8 => ?_)
                  · exact False.elim (by omega)
                  refine rl0 (gn rfl) rfl rfl (step_mv rfl rfl) trivial ?_
                  refine rl0 (gy rfl rfl rfl rfl rfl rfl) rfl rfl (step_mv rfl rfl) trivial ?_
                  refine rl0 (gy rfl rfl rfl rfl rfl rfl) rfl rfl (step_callc rfl Try.func17 rfl rfl rfl (sound_c kf (popH kf h L) (n + 10) (n + 0) (n + 1) v (L - 1) M c hst_.le (by omega) hst_.inj hst_.lt hst_.rel.hp) (by repeat (first | exact .nil | refine .cons ?_ ?_ | exact VLe.refl _ | exact vle_int (by omega) | exact vle_int (kgF_c _ _ _) | exact vle_int (kgF_c _ _ _).symm | exact VLe.own_sl _ _ _ | exact VLe.fl_sl _ _ | exact VLe.nil_sl _ | exact VLe.nil_fl _ | refine VLe.agg ?_))) ⟨by repeat (first | exact uE | refine uN (by omega) ?_ | assumption | exact hd _ (by omega) | exact hd0 _ (by omega) | refine (hfz3 _ (by first | assumption | omega)).trans ?_ | fail), by repeat (first | exact uE | refine uN (by omega) ?_ | assumption | exact hd _ (by omega) | exact hd0 _ (by omega) | refine (hfz3 _ (by first | assumption | omega)).trans ?_ | fail), fam_ok (fun a_ ha_ => by repeat (first | exact hfam3 a_ ha_ | refine uN (by omega) ?_ | refine (hfz3 _ (by first | assumption | omega)).trans ?_ | fail))⟩ ?_
                  refine rl0 (gy rfl rfl rfl rfl rfl rfl) rfl rfl (step_unOp (c := .bool false) rfl (ev_mk rfl) (fun _ => rfl)) trivial ?_
                  refine rl0 (gn rfl) rfl rfl (step_pick rfl (ev_mk rfl) (ev_mk rfl)) trivial ?_
                  refine rl0 (gn rfl) rfl rfl (step_mv rfl rfl) trivial ?_
                  refine rl0 (gy rfl rfl rfl rfl rfl rfl) rfl rfl (step_mv rfl rfl) trivial ?_
                  refine rl0 (gy rfl rfl rfl rfl rfl rfl) rfl rfl (step_mv rfl rfl) trivial ?_
                  refine rl0 (gy rfl rfl rfl rfl rfl rfl) rfl rfl (step_len (m := m.length) rfl rfl (ev_mk rfl) (.inl ⟨⟨_, Try.underlying27⟩, .inl ⟨_, _, .inl rfl, List.length_map _⟩⟩)) trivial ?_
                  refine rl_gtr (gy rfl rfl rfl rfl rfl rfl) rfl rfl rfl rfl rfl (fun h9 => ?_) (fun h9 => ?_)
                  · skip
                    refine rl0 (gy rfl rfl rfl rfl rfl rfl) rfl rfl (step_neqb rfl (ev_mk rfl) (ev_mk rfl) Try.underlying4) trivial ?_
                    refine rl_know (d := 170) (c := false) rfl (by rw [decide_eq_true (show 0 < L - 1 by omega)]; rfl) ?_
                    refine rl0 (gn rfl) rfl rfl (step_pick rfl (ev_mk rfl) (ev_mk rfl)) trivial ?_
                    refine rl0 (gn rfl) rfl rfl (step_mv rfl rfl) trivial ?_
                    refine rl0 (gy rfl rfl rfl rfl rfl rfl) rfl rfl (step_mv rfl rfl) trivial ?_
                    refine rl_know (d := 173) (c := true) rfl (decide_eq_true (by omega)) ?_
                    refine rl0 (gy rfl rfl rfl rfl rfl rfl) rfl rfl (step_mv rfl rfl) trivial ?_
                    refine rl0 (gy rfl rfl rfl rfl rfl rfl) rfl rfl (step_mv rfl rfl) trivial ?_
                    refine rl0 (gy rfl rfl rfl rfl rfl rfl) rfl rfl (step_mv rfl rfl) trivial ?_
                    refine' rl0 (gy rfl rfl rfl rfl rfl rfl) rfl rfl (step_index rfl (ev_mk rfl) (.inl rfl) (ev_mk rfl) Try.underlying27 F.sz33 (by omega) ?hr) trivial ?_
                    case hr => exact map_at _ _ _ (by omega) (by omega)
                    refine rl0 (gy rfl rfl rfl rfl rfl rfl) rfl rfl (step_fieldAddr_ro (off := 0) rfl (ev_mk rfl) Try.underlying33 rfl F.sz3 rfl rfl) trivial ?_
                    refine rl0 (gy rfl rfl rfl rfl rfl rfl) rfl rfl (step_load_ro rfl (ev_mk rfl) F.one3 rfl) trivial ?_
                    refine rl_neq (gy rfl rfl rfl rfl rfl rfl) rfl rfl rfl rfl rfl (fun h10 => ?_) (fun h10 => ?_)
                    · exact False.elim (by exact absurd (hst_.top (by omega)).1 h10)
                    refine rl0 (gy rfl rfl rfl rfl rfl rfl) rfl rfl (step_pick rfl (ev_mk rfl) (ev_mk rfl)) trivial ?_
                    refine rl0 (gn rfl) rfl rfl (step_pick rfl (ev_mk rfl) (ev_mk rfl)) trivial ?_
                    refine runsL_nil ?_
                    refine runs_cond false (ev_mk rfl) (fun h_ => nomatch h_) (fun _ => ?_)
                    refine runs_skip ?_
                    refine runs_region ?_
                    refine rl0 (gn rfl) rfl rfl (step_mv rfl rfl) trivial ?_
                    refine rl0 (gn rfl) rfl rfl (step_add rfl (ev_mk rfl) (ev_mk rfl) (w64 (by omega))) trivial ?_
                    refine rl0 (gn rfl) rfl rfl (step_as rfl rfl) trivial ?_
                    refine runsL_nil ?_
                    have hq0_ : ((i : Int) + 1) = ((i + 1) : Int) := by omega
                    refine ⟨_, _, ?_, sle ?_ (Nat.le_refl _), (i + 1), (L - 1), M, v, c, (popH kf h L), kf, m, _, _, rfl, rfl, by omega, (fun k_ hk_ => by repeat (first | exact hf0 k_ hk_ | refine (hfz3 _ (by first | assumption | omega)).trans ?_ | refine uN (by first | assumption | omega) ?_ | fail)), by first | ((repeat (first | exact uE | assumption | refine uN (by omega) ?_ | refine (hfz3 _ (by first | assumption | omega)).trans ?_ | fail)); done) | exact tl_eq (by repeat (first | exact uE | assumption | refine uN (by omega) ?_ | refine (hfz3 _ (by first | assumption | omega)).trans ?_ | fail)) (by first | rfl | (simp [bytesV, beB_len]; done) | (simp [bytesV, beB_len]; omega) | omega) | (rw [← hq0_]; (repeat (first | exact uE | assumption | refine uN (by omega) ?_ | refine (hfz3 _ (by first | assumption | omega)).trans ?_ | fail)); done), by first | ((repeat (first | exact uE | assumption | refine uN (by omega) ?_ | refine (hfz3 _ (by first | assumption | omega)).trans ?_ | fail)); done) | exact tl_eq (by repeat (first | exact uE | assumption | refine uN (by omega) ?_ | refine (hfz3 _ (by first | assumption | omega)).trans ?_ | fail)) (by first | rfl | (simp [bytesV, beB_len]; done) | (simp [bytesV, beB_len]; omega) | omega) | (rw [← hq0_]; (repeat (first | exact uE | assumption | refine uN (by omega) ?_ | refine (hfz3 _ (by first | assumption | omega)).trans ?_ | fail)); done), by first | ((repeat (first | exact uE | assumption | refine uN (by omega) ?_ | refine (hfz3 _ (by first | assumption | omega)).trans ?_ | fail)); done) | exact tl_eq (by repeat (first | exact uE | assumption | refine uN (by omega) ?_ | refine (hfz3 _ (by first | assumption | omega)).trans ?_ | fail)) (by first | rfl | (simp [bytesV, beB_len]; done) | (simp [bytesV, beB_len]; omega) | omega) | (rw [← hq0_]; (repeat (first | exact uE | assumption | refine uN (by omega) ?_ | refine (hfz3 _ (by first | assumption | omega)).trans ?_ | fail)); done), ⟨by omega, by omega, by omega⟩, hst_1, (fun a_ ha_ => by repeat (first | exact hfam3 a_ ha_ | refine uN (by omega) ?_ | refine (hfz3 _ (by first | assumption | omega)).trans ?_ | fail)), (fun a_ h1_ h2_ => by repeat (first | exact hF0_3 a_ (by omega) h2_ | refine uN (by omega) ?_ | refine (hfz3 _ (by first | assumption | omega)).trans ?_ | fail))⟩
                    · omega
                    · (repeat' (first | exact trivial | refine ⟨⟨_, rfl, ?_⟩, ?_⟩ | fail)); all_goals (repeat' (first | exact VLe.refl _ | exact VLe.own_sl _ _ _ | exact VLe.fl_sl _ _ | exact VLe.nil_sl _ | exact VLe.nil_fl _ | exact VLes.refl _ | exact .nil | refine VLe.tup ?_ | refine VLe.agg ?_ | refine .cons ?_ ?_ | (rw [Int.natCast_add]; exact VLe.refl _) | exact vle_int (by omega) | exact vle_bool (by first | rfl | assumption | (simp_all; done) | fail) | (rw [← hq0_]; exact VLe.refl _) | (rw [hq0_]; exact VLe.refl _) | fail))
                  · skip
                    refine rl0 (gy rfl rfl rfl rfl rfl rfl) rfl rfl (step_neqb rfl (ev_mk rfl) (ev_mk rfl) Try.underlying4) trivial ?_
                    refine rl_know (d := 170) (c := false) rfl (by rw [decide_eq_false (show ¬ 0 < L - 1 by omega)]; rfl) ?_
                    refine rl0 (gn rfl) rfl rfl (step_pick rfl (ev_mk rfl) (ev_mk rfl)) trivial ?_
                    refine rl0 (gn rfl) rfl rfl (step_mv rfl rfl) trivial ?_
                    refine rl0 (gy rfl rfl rfl rfl rfl rfl) rfl rfl (step_mv rfl rfl) trivial ?_
                    refine rl_know (d := 173) (c := false) rfl (decide_eq_false (by omega)) ?_
                    refine rl0 (gy rfl rfl rfl rfl rfl rfl) rfl rfl (step_mv rfl rfl) trivial ?_
                    refine rlk rfl rfl rfl rfl rfl (ngb rfl rfl) rfl rfl ?_
                    refine rlk rfl rfl rfl rfl rfl (ngb rfl rfl) rfl rfl ?_
                    refine rlk rfl rfl rfl rfl rfl (ngb rfl rfl) rfl rfl ?_
                    refine rlk rfl rfl rfl rfl rfl (ngb rfl rfl) rfl rfl ?_
                    refine rlk rfl rfl rfl rfl rfl (ngb rfl rfl) rfl rfl ?_
                    refine rlk rfl rfl rfl rfl rfl (ngb rfl rfl) rfl rfl ?_
                    refine rl0 (gy rfl rfl rfl rfl rfl rfl) rfl rfl (step_pick rfl (ev_mk rfl) (ev_mk rfl)) trivial ?_
                    refine rl0 (gn rfl) rfl rfl (step_pick rfl (ev_mk rfl) (ev_mk rfl)) trivial ?_
                    refine runsL_nil ?_
                    refine runs_cond false (ev_mk rfl) (fun h_ => nomatch h_) (fun _ => ?_)
                    refine runs_skip ?_
                    refine runs_region ?_
                    refine rl0 (gn rfl) rfl rfl (step_mv rfl rfl) trivial ?_
                    refine rl0 (gn rfl) rfl rfl (step_add rfl (ev_mk rfl) (ev_mk rfl) (w64 (by omega))) trivial ?_
                    refine rl0 (gn rfl) rfl rfl (step_as rfl rfl) trivial ?_
                    refine runsL_nil ?_
                    have hq0_ : ((i : Int) + 1) = ((i + 1) : Int) := by omega
                    refine ⟨_, _, ?_, sle ?_ (Nat.le_refl _), (i + 1), (L - 1), M, v, c, (popH kf h L), kf, m, _, _, rfl, rfl, by omega, (fun k_ hk_ => by repeat (first | exact hf0 k_ hk_ | refine (hfz3 _ (by first | assumption | omega)).trans ?_ | refine uN (by first | assumption | omega) ?_ | fail)), by first | ((repeat (first | exact uE | assumption | refine uN (by omega) ?_ | refine (hfz3 _ (by first | assumption | omega)).trans ?_ | fail)); done) | exact tl_eq (by repeat (first | exact uE | assumption | refine uN (by omega) ?_ | refine (hfz3 _ (by first | assumption | omega)).trans ?_ | fail)) (by first | rfl | (simp [bytesV, beB_len]; done) | (simp [bytesV, beB_len]; omega) | omega) | (rw [← hq0_]; (repeat (first | exact uE | assumption | refine uN (by omega) ?_ | refine (hfz3 _ (by first | assumption | omega)).trans ?_ | fail)); done), by first | ((repeat (first | exact uE | assumption | refine uN (by omega) ?_ | refine (hfz3 _ (by first | assumption | omega)).trans ?_ | fail)); done) | exact tl_eq (by repeat (first | exact uE | assumption | refine uN (by omega) ?_ | refine (hfz3 _ (by first | assumption | omega)).trans ?_ | fail)) (by first | rfl | (simp [bytesV, beB_len]; done) | (simp [bytesV, beB_len]; omega) | omega) | (rw [← hq0_]; (repeat (first | exact uE | assumption | refine uN (by omega) ?_ | refine (hfz3 _ (by first | assumption | omega)).trans ?_ | fail)); done), by first | ((repeat (first | exact uE | assumption | refine uN (by omega) ?_ | refine (hfz3 _ (by first | assumption | omega)).trans ?_ | fail)); done) | exact tl_eq (by repeat (first | exact uE | assumption | refine uN (by omega) ?_ | refine (hfz3 _ (by first | assumption | omega)).trans ?_ | fail)) (by first | rfl | (simp [bytesV, beB_len]; done) | (simp [bytesV, beB_len]; omega) | omega) | (rw [← hq0_]; (repeat (first | exact uE | assumption | refine uN (by omega) ?_ | refine (hfz3 _ (by first | assumption | omega)).trans ?_ | fail)); done), ⟨by omega, by omega, by omega⟩, hst_1, (fun a_ ha_ => by repeat (first | exact hfam3 a_ ha_ | refine uN (by omega) ?_ | refine (hfz3 _ (by first | assumption | omega)).trans ?_ | fail)), (fun a_ h1_ h2_ => by repeat (first | exact hF0_3 a_ (by omega) h2_ | refine uN (by omega) ?_ | refine (hfz3 _ (by first | assumption | omega)).trans ?_ | fail))⟩
                    · omega
                    · (repeat' (first | exact trivial | refine ⟨⟨_, rfl, ?_⟩, ?_⟩ | fail)); all_goals (repeat' (first | exact VLe.refl _ | exact VLe.own_sl _ _ _ | exact VLe.fl_sl _ _ | exact VLe.nil_sl _ | exact VLe.nil_fl _ | exact VLes.refl _ | exact .nil | refine VLe.tup ?_ | refine VLe.agg ?_ | refine .cons ?_ ?_ | (rw [Int.natCast_add]; exact VLe.refl _) | exact vle_int (by omega) | exact vle_bool (by first | rfl | assumption | (simp_all; done) | fail) | (rw [← hq0_]; exact VLe.refl _) | (rw [hq0_]; exact VLe.refl _) | fail))
              · skip
                refine rl0 (gn rfl) rfl rfl (step_as rfl rfl) trivial ?_
                refine runsL_nil ?_
                refine runs_cond false (ev_mk rfl) (fun h_ => nomatch h_) (fun _ => ?_)
                refine runs_seq ?_
                refine runs_region ?_
                refine rl0 (gn rfl) rfl rfl (step_mv rfl rfl) trivial ?_
                refine rl0 (gn rfl) rfl rfl (step_len (m := c) rfl rfl (ev_mk rfl) (.inl ⟨⟨_, Try.underlying28⟩, .inl ⟨_, _, .inr (.inr ⟨_, rfl⟩), allR_len _ _⟩⟩)) trivial ?_
                refine rl_eql (gn rfl) rfl rfl rfl rfl rfl (fun h7 => ?_) (fun h7 => ?_)
                · exact False.elim (by omega)
                refine rl0 (gn rfl) rfl rfl (step_as rfl rfl) trivial ?_
                refine runsL_nil ?_
                refine runs_cond false (ev_mk rfl) (fun h_ => nomatch h_) (fun _ => ?_)
                refine runs_seq ?_
                refine runs_region ?_
                refine rl0 (gn rfl) rfl rfl (step_fieldAddr (off := 0) rfl (ev_mk rfl) Try.underlying30 rfl F.sz3 rfl) trivial ?_
                refine' rl0 (gn rfl) rfl rfl (step_load_one rfl (ev_mk rfl) F.one3 ?hv) ⟨?hb, trivial⟩ ?_
                case hb => repeat (first | exact uE | refine uN (by omega) ?_ | assumption | exact hd _ (by omega) | exact hd0 _ (by omega) | fail)
                case hv => rfl
                refine rl_eql (gn rfl) rfl rfl rfl rfl rfl (fun h8 => ?_) (fun h8 => ?_)
                · skip
                  refine rl0 (gn rfl) rfl rfl (step_as rfl rfl) trivial ?_
                  refine runsL_nil ?_
                  refine runs_cond true (ev_mk rfl) (fun _ => ?_) (fun h_ => nomatch h_)
                  refine runs_seq ?_
                  refine runs_region ?_
                  refine rl0 (gn rfl) rfl rfl (step_mv rfl rfl) trivial ?_
                  refine rl0 (gn rfl) rfl rfl (step_mv rfl rfl) trivial ?_
                  refine rl0 (gn rfl) rfl rfl (step_callc rfl Try.func12 rfl rfl rfl (without_c m (nIx (at' l (i : Int)).m c) (by omega)) (by repeat (first | exact .nil | refine .cons ?_ ?_ | exact VLe.refl _ | exact vle_int (by omega) | exact vle_int (kgF_c _ _ _) | exact vle_int (kgF_c _ _ _).symm | exact VLe.own_sl _ _ _ | exact VLe.fl_sl _ _ | exact VLe.nil_sl _ | exact VLe.nil_fl _ | refine VLe.agg ?_))) trivial ?_
                  refine rl0 (gn rfl) rfl rfl (step_mv rfl rfl) trivial ?_
                  refine rl0 (gn rfl) rfl rfl (step_extract rfl (ev_mk rfl) rfl) trivial ?_
                  refine rl0 (gn rfl) rfl rfl (step_extract rfl (ev_mk rfl) rfl) trivial ?_
                  refine rl0 (gn rfl) rfl rfl (step_as rfl rfl) trivial ?_
                  refine rl0 (gn rfl) rfl rfl (step_as rfl rfl) trivial ?_
                  refine runsL_nil ?_
                  refine runs_seq ?_
                  refine runs_region ?_
                  refine rl0 (gn rfl) rfl rfl (step_mv rfl rfl) trivial ?_
                  refine rl0 (gn rfl) rfl rfl (step_as rfl rfl) trivial ?_
                  refine runsL_nil ?_
                  refine runs_seq ?_
                  refine runs_region ?_
                  refine rl0 (gn rfl) rfl rfl (step_mv rfl rfl) trivial ?_
                  refine rl0 (gn rfl) rfl rfl (step_mv rfl rfl) trivial ?_
                  refine rl0 (gn rfl) rfl rfl (step_mv rfl rfl) trivial ?_
                  refine' rl0 (gn rfl) rfl rfl (step_index (r := [.ref (n + 10 + (nIx (at' l (i : Int)).m c)) 0]) rfl (ev_mk rfl) (.inr (.inr ⟨_, rfl⟩)) (ev_mk rfl) Try.underlying28 F.sz34 (by omega) ?hr) trivial ?_
                  case hr => exact allR_at hq_
                  refine rl0 (gn rfl) rfl rfl (step_load_ro rfl (ev_mk rfl) F.one34 rfl) trivial ?_
                  refine rl_fam (gn rfl) rfl rfl (step_callc rfl Try.func13 rfl rfl rfl (remove_b kf h (n + 10) (n + 0) (n + 1) v L M c (nIx (at' l (i : Int)).m c) hF0_1.le (by omega) hF0_1.inj hF0_1.lt (by omega) (by omega) (by omega) hq_) (by repeat (first | exact .nil | refine .cons ?_ ?_ | exact VLe.refl _ | exact vle_int (by omega) | exact vle_int (kgF_c _ _ _) | exact vle_int (kgF_c _ _ _).symm | exact VLe.own_sl _ _ _ | exact VLe.fl_sl _ _ | exact VLe.nil_sl _ | exact VLe.nil_fl _ | refine VLe.agg ?_))) ⟨by repeat (first | exact uE | refine uN (by omega) ?_ | assumption | exact hd _ (by omega) | exact hd0 _ (by omega) | fail), by repeat (first | exact uE | refine uN (by omega) ?_ | assumption | exact hd _ (by omega) | exact hd0 _ (by omega) | fail), fam_ok (fun a_ ha_ => by repeat (first | exact hF0_2 a_ ha_ | refine uN (by omega) ?_ | fail))⟩ (by repeat (first | exact trivial | refine ⟨by omega, ?_⟩)) (by omega) (fun bz4 hfam4 hfz4 => ?_)
                  simp only [upds] at hfz4
                  have hst_1 : Hst kf (rmH kf h L (nIx (at' l (i : Int)).m c)) (rmN h L (nIx (at' l (i : Int)).m c)) M c (withR m (nIx (at' l (i : Int)).m c)) := hF0_1.rm
                  refine rl0 (gn rfl) rfl rfl (step_mv rfl rfl) trivial ?_
                  refine rl0 (gn rfl) rfl rfl (step_neqb rfl (ev_mk rfl) (ev_mk rfl) Try.underlying4) trivial ?_
                  refine rl_know (d := 121) (c := false) rfl (by rw [hF0_1.was]; simp) ?_
                  refine runsL_nil ?_
                  refine runs_cond false (ev_mk rfl) (fun h_ => nomatch h_) (fun _ => ?_)
                  refine runs_skip ?_
                  refine runs_seq ?_
                  have hst_ : Hst kf (rmH kf h L (nIx (at' l (i : Int)).m c)) (rmN h L (nIx (at' l (i : Int)).m c)) M c (withR m (nIx (at' l (i : Int)).m c)) := hst_1
                  have hLm_ := hst_.rel.len
                  have hrn_ := rmN_le h L (nIx (at' l (i : Int)).m c)
                  refine runs_region ?_
                  refine rl0 (gn rfl) rfl rfl (step_mv rfl rfl) trivial ?_
                  refine rl0 (gn rfl) rfl rfl (step_callc rfl Try.func15 rfl rfl rfl (top_c kf (rmH kf h L (nIx (at' l (i : Int)).m c)) (n + 10) (n + 0) (n + 1) v (rmN h L (nIx (at' l (i : Int)).m c)) M c hst_.le hst_.lt) (by repeat (first | exact .nil | refine .cons ?_ ?_ | exact VLe.refl _ | exact vle_int (by omega) | exact vle_int (kgF_c _ _ _) | exact vle_int (kgF_c _ _ _).symm | exact VLe.own_sl _ _ _ | exact VLe.fl_sl _ _ | exact VLe.nil_sl _ | exact VLe.nil_fl _ | refine VLe.agg ?_))) ⟨by repeat (first | exact uE | refine uN (by omega) ?_ | assumption | exact hd _ (by omega) | exact hd0 _ (by omega) | refine (hfz4 _ (by first | assumption | omega)).trans ?_ | fail), by repeat (first | exact uE | refine uN (by omega) ?_ | assumption | exact hd _ (by omega) | exact hd0 _ (by omega) | refine (hfz4 _ (by first | assumption | omega)).trans ?_ | fail), fam_ok (fun a_ ha_ => by repeat (first | exact hfam4 a_ ha_ | refine uN (by omega) ?_ | refine (hfz4 _ (by first | assumption | omega)).trans ?_ | fail))⟩ ?_
                  refine rl0 (gn rfl) rfl rfl (step_mv rfl rfl) trivial ?_
                  refine rl0 (gn rfl) rfl rfl (step_extract rfl (ev_mk rfl) rfl) trivial ?_
                  refine rl0 (gn rfl) rfl rfl (step_extract rfl (ev_mk rfl) rfl) trivial ?_
                  refine rl0 (gn rfl) rfl rfl (step_as rfl rfl) trivial ?_
                  refine rl0 (gn rfl) rfl rfl (step_as rfl rfl) trivial ?_
                  refine runsL_nil ?_
                  refine runs_seq ?_
                  refine runs_region ?_
                  refine rl0 (gn rfl) rfl rfl (step_mv rfl rfl) trivial ?_
                  refine rl0 (gn rfl) rfl rfl (step_callc rfl Try.func16 rfl rfl rfl (len_c (n + 0) (n + 1) v (rmN h L (nIx (at' l (i : Int)).m c)) c) (by repeat (first | exact .nil | refine .cons ?_ ?_ | exact VLe.refl _ | exact vle_int (by omega) | exact vle_int (kgF_c _ _ _) | exact vle_int (kgF_c _ _ _).symm | exact VLe.own_sl _ _ _ | exact VLe.fl_sl _ _ | exact VLe.nil_sl _ | exact VLe.nil_fl _ | refine VLe.agg ?_))) ⟨by repeat (first | exact uE | refine uN (by omega) ?_ | assumption | exact hd _ (by omega) | exact hd0 _ (by omega) | refine (hfz4 _ (by first | assumption | omega)).trans ?_ | fail), trivial⟩ ?_
                  refine rl0 (gn rfl) rfl rfl (step_mv rfl rfl) trivial ?_
                  refine rl0 (gn rfl) rfl rfl (step_len (m := (withR m (nIx (at' l (i : Int)).m c)).length) rfl rfl (ev_mk rfl) (.inl ⟨⟨_, Try.underlying27⟩, .inl ⟨_, _, .inl rfl, List.length_map _⟩⟩)) trivial ?_
                  refine rl_neq (gn rfl) rfl rfl rfl rfl rfl (fun h9 => ?_) (fun h9 => ?_)
                  · exact False.elim (by omega)
                  refine rl0 (gn rfl) rfl rfl (step_mv rfl rfl) trivial ?_
                  refine rl0 (gy rfl rfl rfl rfl rfl rfl) rfl rfl (step_mv rfl rfl) trivial ?_
                  refine rl0 (gy rfl rfl rfl rfl rfl rfl) rfl rfl (step_callc rfl Try.func17 rfl rfl rfl (sound_c kf (rmH kf h L (nIx (at' l (i : Int)).m c)) (n + 10) (n + 0) (n + 1) v (rmN h L (nIx (at' l (i : Int)).m c)) M c hst_.le (by omega) hst_.inj hst_.lt hst_.rel.hp) (by repeat (first | exact .nil | refine .cons ?_ ?_ | exact VLe.refl _ | exact vle_int (by omega) | exact vle_int (kgF_c _ _ _) | exact vle_int (kgF_c _ _ _).symm | exact VLe.own_sl _ _ _ | exact VLe.fl_sl _ _ | exact VLe.nil_sl _ | exact VLe.nil_fl _ | refine VLe.agg ?_))) ⟨by repeat (first | exact uE | refine uN (by omega) ?_ | assumption | exact hd _ (by omega) | exact hd0 _ (by omega) | refine (hfz4 _ (by first | assumption | omega)).trans ?_ | fail), by repeat (first | exact uE | refine uN (by omega) ?_ | assumption | exact hd _ (by omega) | exact hd0 _ (by omega) | refine (hfz4 _ (by first | assumption | omega)).trans ?_ | fail), fam_ok (fun a_ ha_ => by repeat (first | exact hfam4 a_ ha_ | refine uN (by omega) ?_ | refine (hfz4 _ (by first | assumption | omega)).trans ?_ | fail))⟩ ?_
                  refine rl0 (gy rfl rfl rfl rfl rfl rfl) rfl rfl (step_unOp (c := .bool false) rfl (ev_mk rfl) (fun _ => rfl)) trivial ?_
                  refine rl0 (gn rfl) rfl rfl (step_pick rfl (ev_mk rfl) (ev_mk rfl)) trivial ?_
                  refine rl0 (gn rfl) rfl rfl (step_mv rfl rfl) trivial ?_
                  refine rl0 (gy rfl rfl rfl rfl rfl rfl) rfl rfl (step_mv rfl rfl) trivial ?_
                  refine rl0 (gy rfl rfl rfl rfl rfl rfl) rfl rfl (step_mv rfl rfl) trivial ?_
                  refine rl0 (gy rfl rfl rfl rfl rfl rfl) rfl rfl (step_len (m := (withR m (nIx (at' l (i : Int)).m c)).length) rfl rfl (ev_mk rfl) (.inl ⟨⟨_, Try.underlying27⟩, .inl ⟨_, _, .inl rfl, List.length_map _⟩⟩)) trivial ?_
                  refine rl_gtr (gy rfl rfl rfl rfl rfl rfl) rfl rfl rfl rfl rfl (fun h10 => ?_) (fun h10 => ?_)
                  · skip
                    refine rl0 (gy rfl rfl rfl rfl rfl rfl) rfl rfl (step_neqb rfl (ev_mk rfl) (ev_mk rfl) Try.underlying4) trivial ?_
                    refine rl_know (d := 170) (c := false) rfl (by rw [decide_eq_true (show 0 < (rmN h L (nIx (at' l (i : Int)).m c)) by omega)]; rfl) ?_
                    refine rl0 (gn rfl) rfl rfl (step_pick rfl (ev_mk rfl) (ev_mk rfl)) trivial ?_
                    refine rl0 (gn rfl) rfl rfl (step_mv rfl rfl) trivial ?_
                    refine rl0 (gy rfl rfl rfl rfl rfl rfl) rfl rfl (step_mv rfl rfl) trivial ?_
                    refine rl_know (d := 173) (c := true) rfl (decide_eq_true (by omega)) ?_
                    refine rl0 (gy rfl rfl rfl rfl rfl rfl) rfl rfl (step_mv rfl rfl) trivial ?_
                    refine rl0 (gy rfl rfl rfl rfl rfl rfl) rfl rfl (step_mv rfl rfl) trivial ?_
                    refine rl0 (gy rfl rfl rfl rfl rfl rfl) rfl rfl (step_mv rfl rfl) trivial ?_
                    refine' rl0 (gy rfl rfl rfl rfl rfl rfl) rfl rfl (step_index rfl (ev_mk rfl) (.inl rfl) (ev_mk rfl) Try.underlying27 F.sz33 (by omega) ?hr) trivial ?_
                    case hr => exact map_at _ _ _ (by omega) (by omega)
                    refine rl0 (gy rfl rfl rfl rfl rfl rfl) rfl rfl (step_fieldAddr_ro (off := 0) rfl (ev_mk rfl) Try.underlying33 rfl F.sz3 rfl rfl) trivial ?_
                    refine rl0 (gy rfl rfl rfl rfl rfl rfl) rfl rfl (step_load_ro rfl (ev_mk rfl) F.one3 rfl) trivial ?_
                    refine rl_neq (gy rfl rfl rfl rfl rfl rfl) rfl rfl rfl rfl rfl (fun h11 => ?_) (fun h11 => ?_)
                    · exact False.elim (by exact absurd (hst_.top (by omega)).1 h11)
                    refine rl0 (gy rfl rfl rfl rfl rfl rfl) rfl rfl (step_pick rfl (ev_mk rfl) (ev_mk rfl)) trivial ?_
                    refine rl0 (gn rfl) rfl rfl (step_pick rfl (ev_mk rfl) (ev_mk rfl)) trivial ?_
                    refine runsL_nil ?_
                    refine runs_cond false (ev_mk rfl) (fun h_ => nomatch h_) (fun _ => ?_)
                    refine runs_skip ?_
                    refine runs_region ?_
                    refine rl0 (gn rfl) rfl rfl (step_mv rfl rfl) trivial ?_
                    refine rl0 (gn rfl) rfl rfl (step_add rfl (ev_mk rfl) (ev_mk rfl) (w64 (by omega))) trivial ?_
                    refine rl0 (gn rfl) rfl rfl (step_as rfl rfl) trivial ?_
                    refine runsL_nil ?_
                    have hq0_ : ((i : Int) + 1) = ((i + 1) : Int) := by omega
                    refine ⟨_, _, ?_, sle ?_ (Nat.le_refl _), (i + 1), (rmN h L (nIx (at' l (i : Int)).m c)), M, v, c, (rmH kf h L (nIx (at' l (i : Int)).m c)), kf, (withR m (nIx (at' l (i : Int)).m c)), _, _, rfl, rfl, by omega, (fun k_ hk_ => by repeat (first | exact hf0 k_ hk_ | refine (hfz4 _ (by first | assumption | omega)).trans ?_ | refine uN (by first | assumption | omega) ?_ | fail)), by first | ((repeat (first | exact uE | assumption | refine uN (by omega) ?_ | refine (hfz4 _ (by first | assumption | omega)).trans ?_ | fail)); done) | exact tl_eq (by repeat (first | exact uE | assumption | refine uN (by omega) ?_ | refine (hfz4 _ (by first | assumption | omega)).trans ?_ | fail)) (by first | rfl | (simp [bytesV, beB_len]; done) | (simp [bytesV, beB_len]; omega) | omega) | (rw [← hq0_]; (repeat (first | exact uE | assumption | refine uN (by omega) ?_ | refine (hfz4 _ (by first | assumption | omega)).trans ?_ | fail)); done), by first | ((repeat (first | exact uE | assumption | refine uN (by omega) ?_ | refine (hfz4 _ (by first | assumption | omega)).trans ?_ | fail)); done) | exact tl_eq (by repeat (first | exact uE | assumption | refine uN (by omega) ?_ | refine (hfz4 _ (by first | assumption | omega)).trans ?_ | fail)) (by first | rfl | (simp [bytesV, beB_len]; done) | (simp [bytesV, beB_len]; omega) | omega) | (rw [← hq0_]; (repeat (first | exact uE | assumption | refine uN (by omega) ?_ | refine (hfz4 _ (by first | assumption | omega)).trans ?_ | fail)); done), by first | ((repeat (first | exact uE | assumption | refine uN (by omega) ?_ | refine (hfz4 _ (by first | assumption | omega)).trans ?_ | fail)); done) | exact tl_eq (by repeat (first | exact uE | assumption | refine uN (by omega) ?_ | refine (hfz4 _ (by first | assumption | omega)).trans ?_ | fail)) (by first | rfl | (simp [bytesV, beB_len]; done) | (simp [bytesV, beB_len]; omega) | omega) | (rw [← hq0_]; (repeat (first | exact uE | assumption | refine uN (by omega) ?_ | refine (hfz4 _ (by first | assumption | omega)).trans ?_ | fail)); done), ⟨by omega, by omega, by omega⟩, hst_1, (fun a_ ha_ => by repeat (first | exact hfam4 a_ ha_ | refine uN (by omega) ?_ | refine (hfz4 _ (by first | assumption | omega)).trans ?_ | fail)), (fun a_ h1_ h2_ => by repeat (first | exact hF0_3 a_ (by omega) h2_ | refine uN (by omega) ?_ | refine (hfz4 _ (by first | assumption | omega)).trans ?_ | fail))⟩
                    · omega
                    · (repeat' (first | exact trivial | refine ⟨⟨_, rfl, ?_⟩, ?_⟩ | fail)); all_goals (repeat' (first | exact VLe.refl _ | exact VLe.own_sl _ _ _ | exact VLe.fl_sl _ _ | exact VLe.nil_sl _ | exact VLe.nil_fl _ | exact VLes.refl _ | exact .nil | refine VLe.tup ?_ | refine VLe.agg ?_ | refine .cons ?_ ?_ | (rw [Int.natCast_add]; exact VLe.refl _) | exact vle_int (by omega) | exact vle_bool (by first | rfl | assumption | (simp_all; done) | fail) | (rw [← hq0_]; exact VLe.refl _) | (rw [hq0_]; exact VLe.refl _) | fail))
                  · skip
                    refine rl0 (gy rfl rfl rfl rfl rfl rfl) rfl rfl (step_neqb rfl (ev_mk rfl) (ev_mk rfl) Try.underlying4) trivial ?_
                    refine rl_know (d := 170) (c := false) rfl (by rw [decide_eq_false (show ¬ 0 < (rmN h L (nIx (at' l (i : Int)).m c)) by omega)]; rfl) ?_
                    refine rl0 (gn rfl) rfl rfl (step_pick rfl (ev_mk rfl) (ev_mk rfl)) trivial ?_
                    refine rl0 (gn rfl) rfl rfl (step_mv rfl rfl) trivial ?_
                    refine rl0 (gy rfl rfl rfl rfl rfl rfl) rfl rfl (step_mv rfl rfl) trivial ?_
                    refine rl_know (d := 173) (c := false) rfl (decide_eq_false (by omega)) ?_
                    refine rl0 (gy rfl rfl rfl rfl rfl rfl) rfl rfl (step_mv rfl rfl) trivial ?_
                    refine rlk rfl rfl rfl rfl rfl (ngb rfl rfl) rfl rfl ?_
                    refine rlk rfl rfl rfl rfl rfl (ngb rfl rfl) rfl rfl ?_
                    refine rlk rfl rfl rfl rfl rfl (ngb rfl rfl) rfl rfl ?_
                    refine rlk rfl rfl rfl rfl rfl (ngb rfl rfl) rfl rfl ?_
                    refine rlk rfl rfl rfl rfl rfl (ngb rfl rfl) rfl rfl ?_
                    refine rlk rfl rfl rfl rfl rfl (ngb rfl rfl) rfl rfl ?_
                    refine rl0 (gy rfl rfl rfl rfl rfl rfl) rfl rfl (step_pick rfl (ev_mk rfl) (ev_mk rfl)) trivial ?_
                    refine rl0 (gn rfl) rfl rfl (step_pick rfl (ev_mk rfl) (ev_mk rfl)) trivial ?_
                    refine runsL_nil ?_
                    refine runs_cond false (ev_mk rfl) (fun h_ => nomatch h_) (fun _ => ?_)
                    refine runs_skip ?_
                    refine runs_region ?_
                    refine rl0 (gn rfl) rfl rfl (step_mv rfl rfl) trivial ?_
                    refine rl0 (gn rfl) rfl rfl (step_add rfl (ev_mk rfl) (ev_mk rfl) (w64 (by omega))) trivial ?_
                    refine rl0 (gn rfl) rfl rfl (step_as rfl rfl) trivial ?_
                    refine runsL_nil ?_
                    have hq0_ : ((i : Int) + 1) = ((i + 1) : Int) := by omega
                    refine ⟨_, _, ?_, sle ?_ (Nat.le_refl _), (i + 1), (rmN h L (nIx (at' l (i : Int)).m c)), M, v, c, (rmH kf h L (nIx (at' l (i : Int)).m c)), kf, (withR m (nIx (at' l (i : Int)).m c)), _, _, rfl, rfl, by omega, (fun k_ hk_ => by repeat (first | exact hf0 k_ hk_ | refine (hfz4 _ (by first | assumption | omega)).trans ?_ | refine uN (by first | assumption | omega) ?_ | fail)), by first | ((repeat (first | exact uE | assumption | refine uN (by omega) ?_ | refine (hfz4 _ (by first | assumption | omega)).trans ?_ | fail)); done) | exact tl_eq (by repeat (first | exact uE | assumption | refine uN (by omega) ?_ | refine (hfz4 _ (by first | assumption | omega)).trans ?_ | fail)) (by first | rfl | (simp [bytesV, beB_len]; done) | (simp [bytesV, beB_len]; omega) | omega) | (rw [← hq0_]; (repeat (first | exact uE | assumption | refine uN (by omega) ?_ | refine (hfz4 _ (by first | assumption | omega)).trans ?_ | fail)); done), by first | ((repeat (first | exact uE | assumption | refine uN (by omega) ?_ | refine (hfz4 _ (by first | assumption | omega)).trans ?_ | fail)); done) | exact tl_eq (by repeat (first | exact uE | assumption | refine uN (by omega) ?_ | refine (hfz4 _ (by first | assumption | omega)).trans ?_ | fail)) (by first | rfl | (simp [bytesV, beB_len]; done) | (simp [bytesV, beB_len]; omega) | omega) | (rw [← hq0_]; (repeat (first | exact uE | assumption | refine uN (by omega) ?_ | refine (hfz4 _ (by first | assumption | omega)).trans ?_ | fail)); done), by first | ((repeat (first | exact uE | assumption | refine uN (by omega) ?_ | refine (hfz4 _ (by first | assumption | omega)).trans ?_ | fail)); done) | exact tl_eq (by repeat (first | exact uE | assumption | refine uN (by omega) ?_ | refine (hfz4 _ (by first | assumption | omega)).trans ?_ | fail)) (by first | rfl | (simp [bytesV, beB_len]; done) | (simp [bytesV, beB_len]; omega) | omega) | (rw [← hq0_]; (repeat (first | exact uE | assumption | refine uN (by omega) ?_ | refine (hfz4 _ (by first | assumption | omega)).trans ?_ | fail)); done), ⟨by omega, by omega, by omega⟩, hst_1, (fun a_ ha_ => by repeat (first | exact hfam4 a_ ha_ | refine uN (by omega) ?_ | refine (hfz4 _ (by first | assumption | omega)).trans ?_ | fail)), (fun a_ h1_ h2_ => by repeat (first | exact hF0_3 a_ (by omega) h2_ | refine uN (by omega) ?_ | refine (hfz4 _ (by first | assumption | omega)).trans ?_ | fail))⟩
                    · omega
                    · (repeat' (first | exact trivial | refine ⟨⟨_, rfl, ?_⟩, ?_⟩ | fail)); all_goals (repeat' (first | exact VLe.refl _ | exact VLe.own_sl _ _ _ | exact VLe.fl_sl _ _ | exact VLe.nil_sl _ | exact VLe.nil_fl _ | exact VLes.refl _ | exact .nil | refine VLe.tup ?_ | refine VLe.agg ?_ | refine .cons ?_ ?_ | (rw [Int.natCast_add]; exact VLe.refl _) | exact vle_int (by omega) | exact vle_bool (by first | rfl | assumption | (simp_all; done) | fail) | (rw [← hq0_]; exact VLe.refl _) | (rw [hq0_]; exact VLe.refl _) | fail))
                · skip
                  refine rl0 (gn rfl) rfl rfl (step_as rfl rfl) trivial ?_
                  refine runsL_nil ?_
                  refine runs_cond false (ev_mk rfl) (fun h_ => nomatch h_) (fun _ => ?_)
                  refine runs_seq ?_
                  refine runs_region ?_
                  refine rl0 (gn rfl) rfl rfl (step_fieldAddr (off := 0) rfl (ev_mk rfl) Try.underlying30 rfl F.sz3 rfl) trivial ?_
                  refine' rl0 (gn rfl) rfl rfl (step_load_one rfl (ev_mk rfl) F.one3 ?hv) ⟨?hb, trivial⟩ ?_
                  case hb => repeat (first | exact uE | refine uN (by omega) ?_ | assumption | exact hd _ (by omega) | exact hd0 _ (by omega) | fail)
                  case hv => rfl
                  refine rl_eql (gn rfl) rfl rfl rfl rfl rfl (fun h9 => ?_) (fun h9 => ?_)
                  · skip
                    refine rl0 (gn rfl) rfl rfl (step_as rfl rfl) trivial ?_
                    refine runsL_nil ?_
                    refine runs_cond true (ev_mk rfl) (fun _ => ?_) (fun h_ => nomatch h_)
                    refine runs_seq ?_
                    refine runs_region ?_
                    refine rl0 (gn rfl) rfl rfl (step_mv rfl rfl) trivial ?_
                    refine rl0 (gn rfl) rfl rfl (step_mv rfl rfl) trivial ?_
                    refine rl0 (gn rfl) rfl rfl (step_callc rfl Try.func12 rfl rfl rfl (without_c m (nIx (at' l (i : Int)).m c) (by omega)) (by repeat (first | exact .nil | refine .cons ?_ ?_ | exact VLe.refl _ | exact vle_int (by omega) | exact vle_int (kgF_c _ _ _) | exact vle_int (kgF_c _ _ _).symm | exact VLe.own_sl _ _ _ | exact VLe.fl_sl _ _ | exact VLe.nil_sl _ | exact VLe.nil_fl _ | refine VLe.agg ?_))) trivial ?_
                    refine rl0 (gn rfl) rfl rfl (step_mv rfl rfl) trivial ?_
                    refine rl0 (gn rfl) rfl rfl (step_extract rfl (ev_mk rfl) rfl) trivial ?_
                    refine rl0 (gn rfl) rfl rfl (step_extract rfl (ev_mk rfl) rfl) trivial ?_
                    refine rl0 (gn rfl) rfl rfl (step_as rfl rfl) trivial ?_
                    refine rl0 (gn rfl) rfl rfl (step_as rfl rfl) trivial ?_
                    refine runsL_nil ?_
                    refine runs_seq ?_
                    refine runs_region ?_
                    refine rl0 (gn rfl) rfl rfl (step_mv rfl rfl) trivial ?_
                    refine rl0 (gn rfl) rfl rfl (step_as rfl rfl) trivial ?_
                    refine runsL_nil ?_
                    refine runs_seq ?_
                    refine runs_seq ?_
                    refine runs_region ?_
                    refine rl0 (gn rfl) rfl rfl (step_mv rfl rfl) trivial ?_
                    refine runsL_nil ?_
                    refine runs_cond _ (ev_mk rfl) (fun h10 => ?_) (fun h10 => ?_)
                    · skip
                      have hw_ : wasR m (nIx (at' l (i : Int)).m c) = true := h10
                      obtain ⟨j_, hj_, hja_⟩ := hF0_1.rel.in_iff.2 hw_
                      refine runs_region ?_
                      refine rl0 (gn rfl) rfl rfl (step_mv rfl rfl) trivial ?_
                      refine rl0 (gn rfl) rfl rfl (step_fieldAddr (off := 1) rfl (ev_mk rfl) Try.underlying30 rfl F.sz3 rfl) trivial ?_
                      refine' rl0 (gn rfl) rfl rfl (step_load_one rfl (ev_mk rfl) F.one3 ?hv) ⟨?hb, trivial⟩ ?_
                      case hb => repeat (first | exact uE | refine uN (by omega) ?_ | assumption | exact hd _ (by omega) | exact hd0 _ (by omega) | fail)
                      case hv => rfl
                      refine rl0 (gn rfl) rfl rfl (step_mv rfl rfl) trivial ?_
                      refine rl0 (gn rfl) rfl rfl (step_build (ss := [1, 1]) (zs := [.int .i64 0, .int .i64 0]) rfl Try.underlying33 (by kernel_rfl) F.zero33 rfl rfl rfl) trivial ?_
                      refine rl0 (gn rfl) rfl rfl (step_callc rfl Try.func9 rfl rfl rfl (insert_c (withR m (nIx (at' l (i : Int)).m c)) ⟨(at' l (i : Int)).k, (nIx (at' l (i : Int)).m c)⟩ (by have := withR_len_le m (nIx (at' l (i : Int)).m c); omega)) (by repeat (first | exact .nil | refine .cons ?_ ?_ | exact VLe.refl _ | exact vle_int (by omega) | exact vle_int (kgF_c _ _ _) | exact vle_int (kgF_c _ _ _).symm | exact VLe.own_sl _ _ _ | exact VLe.fl_sl _ _ | exact VLe.nil_sl _ | exact VLe.nil_fl _ | refine VLe.agg ?_))) trivial ?_
                      refine rl0 (gn rfl) rfl rfl (step_as rfl rfl) trivial ?_
                      refine runsL_nil ?_
                      refine runs_seq ?_
                      refine runs_draw (by kernel_rfl) (by kernel_rfl) (by kernel_rfl) ?_
                      refine dl0 (gn rfl) rfl rfl (step_mv rfl rfl) trivial ?_
                      refine dl0 (gn rfl) rfl rfl (step_mv rfl rfl) trivial ?_
                      refine dl0 (gn rfl) rfl rfl (step_mv rfl rfl) trivial ?_
                      refine' dl0 (gn rfl) rfl rfl (step_index (r := [.ref (n + 10 + (nIx (at' l (i : Int)).m c)) 0]) rfl (ev_mk rfl) (.inr (.inr ⟨_, rfl⟩)) (ev_mk rfl) Try.underlying28 F.sz34 (by omega) ?hr) trivial ?_
                      case hr => exact allR_at hq_
                      refine dl0 (gn rfl) rfl rfl (step_load_ro rfl (ev_mk rfl) F.one34 rfl) trivial ?_
                      refine dl0 (gn rfl) rfl rfl (step_fieldAddr (off := 1) rfl (ev_mk rfl) Try.underlying30 rfl F.sz3 rfl) trivial ?_
                      refine' dl0 (gn rfl) rfl rfl (step_load_one rfl (ev_mk rfl) F.one3 ?hv) ⟨?hb, trivial⟩ ?_
                      case hb => repeat (first | exact uE | refine uN (by omega) ?_ | assumption | exact hd _ (by omega) | exact hd0 _ (by omega) | fail)
                      case hv => rfl
                      refine dl_fam (gn rfl) rfl rfl (step_callc rfl Try.func14 rfl rfl rfl (change_a kf (kgF kf (nIx (at' l (i : Int)).m c) (at' l (i : Int)).k) h (n + 10) (n + 0) (n + 1) v L M c j_ (nIx (at' l (i : Int)).m c) hja_ hj_ hF0_1.le (by omega) hF0_1.inj hF0_1.lt (fun v_ h_ => (kgF_o (by rw [← hja_]; exact h_)).symm) (by omega) (by omega) (by omega)) (by repeat (first | exact .nil | refine .cons ?_ ?_ | exact VLe.refl _ | exact vle_int (by omega) | exact vle_int (kgF_c _ _ _) | exact vle_int (kgF_c _ _ _).symm | exact VLe.own_sl _ _ _ | exact VLe.fl_sl _ _ | exact VLe.nil_sl _ | exact VLe.nil_fl _ | refine VLe.agg ?_))) ⟨by repeat (first | exact uE | refine uN (by omega) ?_ | assumption | exact hd _ (by omega) | exact hd0 _ (by omega) | fail), by repeat (first | exact uE | refine uN (by omega) ?_ | assumption | exact hd _ (by omega) | exact hd0 _ (by omega) | fail), fam_ok (fun a_ ha_ => by repeat (first | exact hF0_2 a_ ha_ | refine uN (by omega) ?_ | fail))⟩ (by repeat (first | exact trivial | refine ⟨by omega, ?_⟩)) (by omega) (fun bz5 hfam5 hfz5 => ?_)
                      simp only [upds] at hfz5
                      have hst_1 : Hst (kgF kf (nIx (at' l (i : Int)).m c) (at' l (i : Int)).k) (chF (kgF kf (nIx (at' l (i : Int)).m c) (at' l (i : Int)).k) h L j_) L M c (insR (withR m (nIx (at' l (i : Int)).m c)) ⟨(at' l (i : Int)).k, (nIx (at' l (i : Int)).m c)⟩) := (by have z_ := hF0_1.ch (x := (at' l (i : Int)).k) hj_; rw [hja_] at z_; exact z_)
                      refine dl0 (gn rfl) rfl rfl (step_mv rfl rfl) trivial ?_
                      refine dl0 (gn rfl) rfl rfl (step_neqb rfl (ev_mk rfl) (ev_mk rfl) Try.underlying4) trivial ?_
                      refine dl_know (d := 149) (c := false) rfl (by rw [hw_]; rfl) ?_
                      refine dlnil ?_ ?_
                      · repeat' (first | exact trivial | exact .inr (ap0 _ _ _ _) | exact .inr (ap2 _ _ _ _) | exact .inr (ap3 _ _ _ _) | exact .inr ⟨by first | (simp; done) | (simp; omega), by first | (simp; done) | (simp; omega)⟩ | exact .inl (by kernel_rfl) | refine ⟨?_, ?_⟩ | fail)
                      refine runs_cond false (ev_mk rfl) (fun h_ => nomatch h_) (fun _ => ?_)
                      refine runs_skip ?_
                      refine runs_seq ?_
                      have hst_ : Hst (kgF kf (nIx (at' l (i : Int)).m c) (at' l (i : Int)).k) (chF (kgF kf (nIx (at' l (i : Int)).m c) (at' l (i : Int)).k) h L j_) L M c (insR (withR m (nIx (at' l (i : Int)).m c)) ⟨(at' l (i : Int)).k, (nIx (at' l (i : Int)).m c)⟩) := hst_1
                      have hLm_ := hst_.rel.len
                      have hrn_ := rmN_le h L (nIx (at' l (i : Int)).m c)
                      refine runs_region ?_
                      refine rl0 (gn rfl) rfl rfl (step_mv rfl rfl) trivial ?_
                      refine rl0 (gn rfl) rfl rfl (step_callc rfl Try.func15 rfl rfl rfl (top_c (kgF kf (nIx (at' l (i : Int)).m c) (at' l (i : Int)).k) (chF (kgF kf (nIx (at' l (i : Int)).m c) (at' l (i : Int)).k) h L j_) (n + 10) (n + 0) (n + 1) v L M c hst_.le hst_.lt) (by repeat (first | exact .nil | refine .cons ?_ ?_ | exact VLe.refl _ | exact vle_int (by omega) | exact vle_int (kgF_c _ _ _) | exact vle_int (kgF_c _ _ _).symm | exact VLe.own_sl _ _ _ | exact VLe.fl_sl _ _ | exact VLe.nil_sl _ | exact VLe.nil_fl _ | refine VLe.agg ?_))) ⟨by repeat (first | exact uE | refine uN (by omega) ?_ | assumption | exact hd _ (by omega) | exact hd0 _ (by omega) | refine (hfz5 _ (by first | assumption | omega)).trans ?_ | fail), by repeat (first | exact uE | refine uN (by omega) ?_ | assumption | exact hd _ (by omega) | exact hd0 _ (by omega) | refine (hfz5 _ (by first | assumption | omega)).trans ?_ | fail), fam_ok (fun a_ ha_ => by repeat (first | exact hfam5 a_ ha_ | refine uN (by omega) ?_ | refine (hfz5 _ (by first | assumption | omega)).trans ?_ | fail))⟩ ?_
                      refine rl0 (gn rfl) rfl rfl (step_mv rfl rfl) trivial ?_
                      refine rl0 (gn rfl) rfl rfl (step_extract rfl (ev_mk rfl) rfl) trivial ?_
                      refine rl0 (gn rfl) rfl rfl (step_extract rfl (ev_mk rfl) rfl) trivial ?_
                      refine rl0 (gn rfl) rfl rfl (step_as rfl rfl) trivial ?_
                      refine rl0 (gn rfl) rfl rfl (step_as rfl rfl) trivial ?_
                      refine runsL_nil ?_
                      refine runs_seq ?_
                      refine runs_region ?_
                      refine rl0 (gn rfl) rfl rfl (step_mv rfl rfl) trivial ?_
                      refine rl0 (gn rfl) rfl rfl (step_callc rfl Try.func16 rfl rfl rfl (len_c (n + 0) (n + 1) v L c) (by repeat (first | exact .nil | refine .cons ?_ ?_ | exact VLe.refl _ | exact vle_int (by omega) | exact vle_int (kgF_c _ _ _) | exact vle_int (kgF_c _ _ _).symm | exact VLe.own_sl _ _ _ | exact VLe.fl_sl _ _ | exact VLe.nil_sl _ | exact VLe.nil_fl _ | refine VLe.agg ?_))) ⟨by repeat (first | exact uE | refine uN (by omega) ?_ | assumption | exact hd _ (by omega) | exact hd0 _ (by omega) | refine (hfz5 _ (by first | assumption | omega)).trans ?_ | fail), trivial⟩ ?_
                      refine rl0 (gn rfl) rfl rfl (step_mv rfl rfl) trivial ?_
                      refine rl0 (gn rfl) rfl rfl (step_len (m := (insR (withR m (nIx (at' l (i : Int)).m c)) ⟨(at' l (i : Int)).k, (nIx (at' l (i : Int)).m c)⟩).length) rfl rfl (ev_mk rfl) (.inl ⟨⟨_, Try.underlying27⟩, .inl ⟨_, _, .inl rfl, List.length_map _⟩⟩)) trivial ?_
                      refine rl_neq (gn rfl) rfl rfl rfl rfl rfl (fun h11 => ?_) (fun h11 => ?_)
                      · exact False.elim (by omega)
                      refine rl0 (gn rfl) rfl rfl (step_mv rfl rfl) trivial ?_
                      refine rl0 (gy rfl rfl rfl rfl rfl rfl) rfl rfl (step_mv rfl rfl) trivial ?_
                      refine rl0 (gy rfl rfl rfl rfl rfl rfl) rfl rfl (step_callc rfl Try.func17 rfl rfl rfl (sound_c (kgF kf (nIx (at' l (i : Int)).m c) (at' l (i : Int)).k) (chF (kgF kf (nIx (at' l (i : Int)).m c) (at' l (i : Int)).k) h L j_) (n + 10) (n + 0) (n + 1) v L M c hst_.le (by omega) hst_.inj hst_.lt hst_.rel.hp) (by repeat (first | exact .nil | refine .cons ?_ ?_ | exact VLe.refl _ | exact vle_int (by omega) | exact vle_int (kgF_c _ _ _) | exact vle_int (kgF_c _ _ _).symm | exact VLe.own_sl _ _ _ | exact VLe.fl_sl _ _ | exact VLe.nil_sl _ | exact VLe.nil_fl _ | refine VLe.agg ?_))) ⟨by repeat (first | exact uE | refine uN (by omega) ?_ | assumption | exact hd _ (by omega) | exact hd0 _ (by omega) | refine (hfz5 _ (by first | assumption | omega)).trans ?_ | fail), by repeat (first | exact uE | refine uN (by omega) ?_ | assumption | exact hd _ (by omega) | exact hd0 _ (by omega) | refine (hfz5 _ (by first | assumption | omega)).trans ?_ | fail), fam_ok (fun a_ ha_ => by repeat (first | exact hfam5 a_ ha_ | refine uN (by omega) ?_ | refine (hfz5 _ (by first | assumption | omega)).trans ?_ | fail))⟩ ?_
                      refine rl0 (gy rfl rfl rfl rfl rfl rfl) rfl rfl (step_unOp (c := .bool false) rfl (ev_mk rfl) (fun _ => rfl)) trivial ?_
                      refine rl0 (gn rfl) rfl rfl (step_pick rfl (ev_mk rfl) (ev_mk rfl)) trivial ?_
                      refine rl0 (gn rfl) rfl rfl (step_mv rfl rfl) trivial ?_
                      refine rl0 (gy rfl rfl rfl rfl rfl rfl) rfl rfl (step_mv rfl rfl) trivial ?_
                      refine rl0 (gy rfl rfl rfl rfl rfl rfl) rfl rfl (step_mv rfl rfl) trivial ?_
                      refine rl0 (gy rfl rfl rfl rfl rfl rfl) rfl rfl (step_len (m := (insR (withR m (nIx (at' l (i : Int)).m c)) ⟨(at' l (i : Int)).k, (nIx (at' l (i : Int)).m c)⟩).length) rfl rfl (ev_mk rfl) (.inl ⟨⟨_, Try.underlying27⟩, .inl ⟨_, _, .inl rfl, List.length_map _⟩⟩)) trivial ?_
                      refine rl_gtr (gy rfl rfl rfl rfl rfl rfl) rfl rfl rfl rfl rfl (fun h12 => ?_) (fun h12 => ?_)
                      · skip
                        refine rl0 (gy rfl rfl rfl rfl rfl rfl) rfl rfl (step_neqb rfl (ev_mk rfl) (ev_mk rfl) Try.underlying4) trivial ?_
                        refine rl_know (d := 170) (c := false) rfl (by rw [decide_eq_true (show 0 < L by omega)]; rfl) ?_
                        refine rl0 (gn rfl) rfl rfl (step_pick rfl (ev_mk rfl) (ev_mk rfl)) trivial ?_
                        refine rl0 (gn rfl) rfl rfl (step_mv rfl rfl) trivial ?_
                        refine rl0 (gy rfl rfl rfl rfl rfl rfl) rfl rfl (step_mv rfl rfl) trivial ?_
                        refine rl_know (d := 173) (c := true) rfl (decide_eq_true (by omega)) ?_
                        refine rl0 (gy rfl rfl rfl rfl rfl rfl) rfl rfl (step_mv rfl rfl) trivial ?_
                        refine rl0 (gy rfl rfl rfl rfl rfl rfl) rfl rfl (step_mv rfl rfl) trivial ?_
                        refine rl0 (gy rfl rfl rfl rfl rfl rfl) rfl rfl (step_mv rfl rfl) trivial ?_
                        refine' rl0 (gy rfl rfl rfl rfl rfl rfl) rfl rfl (step_index rfl (ev_mk rfl) (.inl rfl) (ev_mk rfl) Try.underlying27 F.sz33 (by omega) ?hr) trivial ?_
                        case hr => exact map_at _ _ _ (by omega) (by omega)
                        refine rl0 (gy rfl rfl rfl rfl rfl rfl) rfl rfl (step_fieldAddr_ro (off := 0) rfl (ev_mk rfl) Try.underlying33 rfl F.sz3 rfl rfl) trivial ?_
                        refine rl0 (gy rfl rfl rfl rfl rfl rfl) rfl rfl (step_load_ro rfl (ev_mk rfl) F.one3 rfl) trivial ?_
                        refine rl_neq (gy rfl rfl rfl rfl rfl rfl) rfl rfl rfl rfl rfl (fun h13 => ?_) (fun h13 => ?_)
                        · exact False.elim (by exact absurd (hst_.top (by omega)).1 h13)
                        refine rl0 (gy rfl rfl rfl rfl rfl rfl) rfl rfl (step_pick rfl (ev_mk rfl) (ev_mk rfl)) trivial ?_
                        refine rl0 (gn rfl) rfl rfl (step_pick rfl (ev_mk rfl) (ev_mk rfl)) trivial ?_
                        refine runsL_nil ?_
                        refine runs_cond false (ev_mk rfl) (fun h_ => nomatch h_) (fun _ => ?_)
                        refine runs_skip ?_
                        refine runs_region ?_
                        refine rl0 (gn rfl) rfl rfl (step_mv rfl rfl) trivial ?_
                        refine rl0 (gn rfl) rfl rfl (step_add rfl (ev_mk rfl) (ev_mk rfl) (w64 (by omega))) trivial ?_
                        refine rl0 (gn rfl) rfl rfl (step_as rfl rfl) trivial ?_
                        refine runsL_nil ?_
                        have hq0_ : ((i : Int) + 1) = ((i + 1) : Int) := by omega
                        refine ⟨_, _, ?_, sle ?_ (Nat.le_refl _), (i + 1), L, M, v, c, (chF (kgF kf (nIx (at' l (i : Int)).m c) (at' l (i : Int)).k) h L j_), (kgF kf (nIx (at' l (i : Int)).m c) (at' l (i : Int)).k), (insR (withR m (nIx (at' l (i : Int)).m c)) ⟨(at' l (i : Int)).k, (nIx (at' l (i : Int)).m c)⟩), _, _, rfl, rfl, by omega, (fun k_ hk_ => by repeat (first | exact hf0 k_ hk_ | refine (hfz5 _ (by first | assumption | omega)).trans ?_ | refine uN (by first | assumption | omega) ?_ | fail)), by first | ((repeat (first | exact uE | assumption | refine uN (by omega) ?_ | refine (hfz5 _ (by first | assumption | omega)).trans ?_ | fail)); done) | exact tl_eq (by repeat (first | exact uE | assumption | refine uN (by omega) ?_ | refine (hfz5 _ (by first | assumption | omega)).trans ?_ | fail)) (by first | rfl | (simp [bytesV, beB_len]; done) | (simp [bytesV, beB_len]; omega) | omega) | (rw [← hq0_]; (repeat (first | exact uE | assumption | refine uN (by omega) ?_ | refine (hfz5 _ (by first | assumption | omega)).trans ?_ | fail)); done), by first | ((repeat (first | exact uE | assumption | refine uN (by omega) ?_ | refine (hfz5 _ (by first | assumption | omega)).trans ?_ | fail)); done) | exact tl_eq (by repeat (first | exact uE | assumption | refine uN (by omega) ?_ | refine (hfz5 _ (by first | assumption | omega)).trans ?_ | fail)) (by first | rfl | (simp [bytesV, beB_len]; done) | (simp [bytesV, beB_len]; omega) | omega) | (rw [← hq0_]; (repeat (first | exact uE | assumption | refine uN (by omega) ?_ | refine (hfz5 _ (by first | assumption | omega)).trans ?_ | fail)); done), by first | ((repeat (first | exact uE | assumption | refine uN (by omega) ?_ | refine (hfz5 _ (by first | assumption | omega)).trans ?_ | fail)); done) | exact tl_eq (by repeat (first | exact uE | assumption | refine uN (by omega) ?_ | refine (hfz5 _ (by first | assumption | omega)).trans ?_ | fail)) (by first | rfl | (simp [bytesV, beB_len]; done) | (simp [bytesV, beB_len]; omega) | omega) | (rw [← hq0_]; (repeat (first | exact uE | assumption | refine uN (by omega) ?_ | refine (hfz5 _ (by first | assumption | omega)).trans ?_ | fail)); done), ⟨by omega, by omega, by omega⟩, hst_1, (fun a_ ha_ => by repeat (first | exact hfam5 a_ ha_ | refine uN (by omega) ?_ | refine (hfz5 _ (by first | assumption | omega)).trans ?_ | fail)), (fun a_ h1_ h2_ => by repeat (first | exact hF0_3 a_ (by omega) h2_ | refine uN (by omega) ?_ | refine (hfz5 _ (by first | assumption | omega)).trans ?_ | fail))⟩
                        · omega
                        · (repeat' (first | exact trivial | refine ⟨⟨_, rfl, ?_⟩, ?_⟩ | fail)); all_goals (repeat' (first | exact VLe.refl _ | exact VLe.own_sl _ _ _ | exact VLe.fl_sl _ _ | exact VLe.nil_sl _ | exact VLe.nil_fl _ | exact VLes.refl _ | exact .nil | refine VLe.tup ?_ | refine VLe.agg ?_ | refine .cons ?_ ?_ | (rw [Int.natCast_add]; exact VLe.refl _) | exact vle_int (by omega) | exact vle_bool (by first | rfl | assumption | (simp_all; done) | fail) | (rw [← hq0_]; exact VLe.refl _) | (rw [hq0_]; exact VLe.refl _) | fail))
                      · skip
                        refine rl0 (gy rfl rfl rfl rfl rfl rfl) rfl rfl (step_neqb rfl (ev_mk rfl) (ev_mk rfl) Try.underlying4) trivial ?_
                        refine rl_know (d := 170) (c := false) rfl (by rw [decide_eq_false (show ¬ 0 < L by omega)]; rfl) ?_
                        refine rl0 (gn rfl) rfl rfl (step_pick rfl (ev_mk rfl) (ev_mk rfl)) trivial ?_
                        refine rl0 (gn rfl) rfl rfl (step_mv rfl rfl) trivial ?_
                        refine rl0 (gy rfl rfl rfl rfl rfl rfl) rfl rfl (step_mv rfl rfl) trivial ?_
                        refine rl_know (d := 173) (c := false) rfl (decide_eq_false (by omega)) ?_
                        refine rl0 (gy rfl rfl rfl rfl rfl rfl) rfl rfl (step_mv rfl rfl) trivial ?_
                        refine rlk rfl rfl rfl rfl rfl (ngb rfl rfl) rfl rfl ?_
                        refine rlk rfl rfl rfl rfl rfl (ngb rfl rfl) rfl rfl ?_
                        refine rlk rfl rfl rfl rfl rfl (ngb rfl rfl) rfl rfl ?_
                        refine rlk rfl rfl rfl rfl rfl (ngb rfl rfl) rfl rfl ?_
                        refine rlk rfl rfl rfl rfl rfl (ngb rfl rfl) rfl rfl ?_
                        refine rlk rfl rfl rfl rfl rfl (ngb rfl rfl) rfl rfl ?_
                        refine rl0 (gy rfl rfl rfl rfl rfl rfl) rfl rfl (step_pick rfl (ev_mk rfl) (ev_mk rfl)) trivial ?_
                        refine rl0 (gn rfl) rfl rfl (step_pick rfl (ev_mk rfl) (ev_mk rfl)) trivial ?_
                        refine runsL_nil ?_
                        refine runs_cond false (ev_mk rfl) (fun h_ => nomatch h_) (fun _ => ?_)
                        refine runs_skip ?_
                        refine runs_region ?_
                        refine rl0 (gn rfl) rfl rfl (step_mv rfl rfl) trivial ?_
                        refine rl0 (gn rfl) rfl rfl (step_add rfl (ev_mk rfl) (ev_mk rfl) (w64 (by omega))) trivial ?_
                        refine rl0 (gn rfl) rfl rfl (step_as rfl rfl) trivial ?_
                        refine runsL_nil ?_
                        have hq0_ : ((i : Int) + 1) = ((i + 1) : Int) := by omega
                        refine ⟨_, _, ?_, sle ?_ (Nat.le_refl _), (i + 1), L, M, v, c, (chF (kgF kf (nIx (at' l (i : Int)).m c) (at' l (i : Int)).k) h L j_), (kgF kf (nIx (at' l (i : Int)).m c) (at' l (i : Int)).k), (insR (withR m (nIx (at' l (i : Int)).m c)) ⟨(at' l (i : Int)).k, (nIx (at' l (i : Int)).m c)⟩), _, _, rfl, rfl, by omega, (fun k_ hk_ => by repeat (first | exact hf0 k_ hk_ | refine (hfz5 _ (by first | assumption | omega)).trans ?_ | refine uN (by first | assumption | omega) ?_ | fail)), by first | ((repeat (first | exact uE | assumption | refine uN (by omega) ?_ | refine (hfz5 _ (by first | assumption | omega)).trans ?_ | fail)); done) | exact tl_eq (by repeat (first | exact uE | assumption | refine uN (by omega) ?_ | refine (hfz5 _ (by first | assumption | omega)).trans ?_ | fail)) (by first | rfl | (simp [bytesV, beB_len]; done) | (simp [bytesV, beB_len]; omega) | omega) | (rw [← hq0_]; (repeat (first | exact uE | assumption | refine uN (by omega) ?_ | refine (hfz5 _ (by first | assumption | omega)).trans ?_ | fail)); done), by first | ((repeat (first | exact uE | assumption | refine uN (by omega) ?_ | refine (hfz5 _ (by first | assumption | omega)).trans ?_ | fail)); done) | exact tl_eq (by repeat (first | exact uE | assumption | refine uN (by omega) ?_ | refine (hfz5 _ (by first | assumption | omega)).trans ?_ | fail)) (by first | rfl | (simp [bytesV, beB_len]; done) | (simp [bytesV, beB_len]; omega) | omega) | (rw [← hq0_]; (repeat (first | exact uE | assumption | refine uN (by omega) ?_ | refine (hfz5 _ (by first | assumption | omega)).trans ?_ | fail)); done), by first | ((repeat (first | exact uE | assumption | refine uN (by omega) ?_ | refine (hfz5 _ (by first | assumption | omega)).trans ?_ | fail)); done) | exact tl_eq (by repeat (first | exact uE | assumption | refine uN (by omega) ?_ | refine (hfz5 _ (by first | assumption | omega)).trans ?_ | fail)) (by first | rfl | (simp [bytesV, beB_len]; done) | (simp [bytesV, beB_len]; omega) | omega) | (rw [← hq0_]; (repeat (first | exact uE | assumption | refine uN (by omega) ?_ | refine (hfz5 _ (by first | assumption | omega)).trans ?_ | fail)); done), ⟨by omega, by omega, by omega⟩, hst_1, (fun a_ ha_ => by repeat (first | exact hfam5 a_ ha_ | refine uN (by omega) ?_ | refine (hfz5 _ (by first | assumption | omega)).trans ?_ | fail)), (fun a_ h1_ h2_ => by repeat (first | exact hF0_3 a_ (by omega) h2_ | refine uN (by omega) ?_ | refine (hfz5 _ (by first | assumption | omega)).trans ?_ | fail))⟩
                        · omega
                        · (repeat' (first | exact trivial | refine ⟨⟨_, rfl, ?_⟩, ?_⟩ | fail)); all_goals (repeat' (first | exact VLe.refl _ | exact VLe.own_sl _ _ _ | exact VLe.fl_sl _ _ | exact VLe.nil_sl _ | exact VLe.nil_fl _ | exact VLes.refl _ | exact .nil | refine VLe.tup ?_ | refine VLe.agg ?_ | refine .cons ?_ ?_ | (rw [Int.natCast_add]; exact VLe.refl _) | exact vle_int (by omega) | exact vle_bool (by first | rfl | assumption | (simp_all; done) | fail) | (rw [← hq0_]; exact VLe.refl _) | (rw [hq0_]; exact VLe.refl _) | fail))
                    · skip
                      have hw_ : wasR m (nIx (at' l (i : Int)).m c) = false := h10
                      have hpn_ : posF h L (nIx (at' l (i : Int)).m c) = -1 := pos_none (fun h_ => by have z_ := hF0_1.rel.in_iff.1 h_; rw [hw_] at z_; cases z_)
                      have hxn_ : b0 (n + 10 + (nIx (at' l (i : Int)).m c)) = .cells [.sc (.int .i64 (kf ((nIx (at' l (i : Int)).m c)))), .sc (.int .i64 (((nIx (at' l (i : Int)).m c) : Nat) : Int)), .sc (.int .i64 (-1))] := (hF0_2 _ hq_).trans (by unfold itC; rw [hpn_])
                      refine runs_skip ?_
                      refine runs_seq ?_
                      refine runs_draw (by kernel_rfl) (by kernel_rfl) (by kernel_rfl) ?_
                      refine dl0 (gn rfl) rfl rfl (step_mv rfl rfl) trivial ?_
                      refine dl0 (gn rfl) rfl rfl (step_mv rfl rfl) trivial ?_
                      refine dl0 (gn rfl) rfl rfl (step_mv rfl rfl) trivial ?_
                      refine' dl0 (gn rfl) rfl rfl (step_index (r := [.ref (n + 10 + (nIx (at' l (i : Int)).m c)) 0]) rfl (ev_mk rfl) (.inr (.inr ⟨_, rfl⟩)) (ev_mk rfl) Try.underlying28 F.sz34 (by omega) ?hr) trivial ?_
                      case hr => exact allR_at hq_
                      refine dl0 (gn rfl) rfl rfl (step_load_ro rfl (ev_mk rfl) F.one34 rfl) trivial ?_
                      refine dl0 (gn rfl) rfl rfl (step_fieldAddr (off := 1) rfl (ev_mk rfl) Try.underlying30 rfl F.sz3 rfl) trivial ?_
                      refine' dl0 (gn rfl) rfl rfl (step_load_one rfl (ev_mk rfl) F.one3 ?hv) ⟨?hb, trivial⟩ ?_
                      case hb => repeat (first | exact uE | refine uN (by omega) ?_ | assumption | exact hd _ (by omega) | exact hd0 _ (by omega) | fail)
                      case hv => rfl
                      refine dl0 (gn rfl) rfl rfl (step_callc rfl Try.func14 rfl rfl rfl (change_n kf (n + 10) (n + 0) (n + 1) v L c (nIx (at' l (i : Int)).m c) (at' l (i : Int)).k) (by repeat (first | exact .nil | refine .cons ?_ ?_ | exact VLe.refl _ | exact vle_int (by omega) | exact vle_int (kgF_c _ _ _) | exact vle_int (kgF_c _ _ _).symm | exact VLe.own_sl _ _ _ | exact VLe.fl_sl _ _ | exact VLe.nil_sl _ | exact VLe.nil_fl _ | refine VLe.agg ?_))) ⟨by repeat (first | exact uE | refine uN (by omega) ?_ | assumption | exact hd _ (by omega) | exact hd0 _ (by omega) | fail), by repeat (first | exact uE | refine uN (by omega) ?_ | assumption | exact hd _ (by omega) | exact hd0 _ (by omega) | fail), trivial⟩ ?_
                      have hst_1 : Hst kf h L M c (withR m (nIx (at' l (i : Int)).m c)) := (by rw [withR_no hw_]; exact hF0_1)
                      refine dl0 (gn rfl) rfl rfl (step_mv rfl rfl) trivial ?_
                      refine dl0 (gn rfl) rfl rfl (step_neqb rfl (ev_mk rfl) (ev_mk rfl) Try.underlying4) trivial ?_
                      refine dl_know (d := 149) (c := false) rfl (by rw [hw_]; rfl) ?_
                      refine dlnil ?_ ?_
                      · repeat' (first | exact trivial | exact .inr (ap0 _ _ _ _) | exact .inr (ap2 _ _ _ _) | exact .inr (ap3 _ _ _ _) | exact .inr ⟨by first | (simp; done) | (simp; omega), by first | (simp; done) | (simp; omega)⟩ | exact .inl (by kernel_rfl) | refine ⟨?_, ?_⟩ | fail)
                      refine runs_cond false (ev_mk rfl) (fun h_ => nomatch h_) (fun _ => ?_)
                      refine runs_skip ?_
                      refine runs_seq ?_
                      have hst_ : Hst kf h L M c (withR m (nIx (at' l (i : Int)).m c)) := hst_1
                      have hLm_ := hst_.rel.len
                      have hrn_ := rmN_le h L (nIx (at' l (i : Int)).m c)
                      refine runs_region ?_
                      refine rl0 (gn rfl) rfl rfl (step_mv rfl rfl) trivial ?_
                      refine rl0 (gn rfl) rfl rfl (step_callc rfl Try.func15 rfl rfl rfl (top_c kf h (n + 10) (n + 0) (n + 1) v L M c hst_.le hst_.lt) (by repeat (first | exact .nil | refine .cons ?_ ?_ | exact VLe.refl _ | exact vle_int (by omega) | exact vle_int (kgF_c _ _ _) | exact vle_int (kgF_c _ _ _).symm | exact VLe.own_sl _ _ _ | exact VLe.fl_sl _ _ | exact VLe.nil_sl _ | exact VLe.nil_fl _ | refine VLe.agg ?_))) ⟨by repeat (first | exact uE | refine uN (by omega) ?_ | assumption | exact hd _ (by omega) | exact hd0 _ (by omega) | fail), by repeat (first | exact uE | refine uN (by omega) ?_ | assumption | exact hd _ (by omega) | exact hd0 _ (by omega) | fail), fam_ok (fun a_ ha_ => by repeat (first | exact hF0_2 a_ ha_ | refine uN (by omega) ?_ | fail))⟩ ?_
                      refine rl0 (gn rfl) rfl rfl (step_mv rfl rfl) trivial ?_
                      refine rl0 (gn rfl) rfl rfl (step_extract rfl (ev_mk rfl) rfl) trivial ?_
                      refine rl0 (gn rfl) rfl rfl (step_extract rfl (ev_mk rfl) rfl) trivial ?_
                      refine rl0 (gn rfl) rfl rfl (step_as rfl rfl) trivial ?_
                      refine rl0 (gn rfl) rfl rfl (step_as rfl rfl) trivial ?_
                      refine runsL_nil ?_
                      refine runs_seq ?_
                      refine runs_region ?_
                      refine rl0 (gn rfl) rfl rfl (step_mv rfl rfl) trivial ?_
                      refine rl0 (gn rfl) rfl rfl (step_callc rfl Try.func16 rfl rfl rfl (len_c (n + 0) (n + 1) v L c) (by repeat (first | exact .nil | refine .cons ?_ ?_ | exact VLe.refl _ | exact vle_int (by omega) | exact vle_int (kgF_c _ _ _) | exact vle_int (kgF_c _ _ _).symm | exact VLe.own_sl _ _ _ | exact VLe.fl_sl _ _ | exact VLe.nil_sl _ | exact VLe.nil_fl _ | refine VLe.agg ?_))) ⟨by repeat (first | exact uE | refine uN (by omega) ?_ | assumption | exact hd _ (by omega) | exact hd0 _ (by omega) | fail), trivial⟩ ?_
                      refine rl0 (gn rfl) rfl rfl (step_mv rfl rfl) trivial ?_
                      refine rl0 (gn rfl) rfl rfl (step_len (m := (withR m (nIx (at' l (i : Int)).m c)).length) rfl rfl (ev_mk rfl) (.inl ⟨⟨_, Try.underlying27⟩, .inl ⟨_, _, .inl rfl, List.length_map _⟩⟩)) trivial ?_
                      refine rl_neq (gn rfl) rfl rfl rfl rfl rfl (fun h11 => ?_) (fun h11 => ?_)
                      · exact False.elim (by omega)
                      refine rl0 (gn rfl) rfl rfl (step_mv rfl rfl) trivial ?_
                      refine rl0 (gy rfl rfl rfl rfl rfl rfl) rfl rfl (step_mv rfl rfl) trivial ?_
                      refine rl0 (gy rfl rfl rfl rfl rfl rfl) rfl rfl (step_callc rfl Try.func17 rfl rfl rfl (sound_c kf h (n + 10) (n + 0) (n + 1) v L M c hst_.le (by omega) hst_.inj hst_.lt hst_.rel.hp) (by repeat (first | exact .nil | refine .cons ?_ ?_ | exact VLe.refl _ | exact vle_int (by omega) | exact vle_int (kgF_c _ _ _) | exact vle_int (kgF_c _ _ _).symm | exact VLe.own_sl _ _ _ | exact VLe.fl_sl _ _ | exact VLe.nil_sl _ | exact VLe.nil_fl _ | refine VLe.agg ?_))) ⟨by repeat (first | exact uE | refine uN (by omega) ?_ | assumption | exact hd _ (by omega) | exact hd0 _ (by omega) | fail), by repeat (first | exact uE | refine uN (by omega) ?_ | assumption | exact hd _ (by omega) | exact hd0 _ (by omega) | fail), fam_ok (fun a_ ha_ => by repeat (first | exact hF0_2 a_ ha_ | refine uN (by omega) ?_ | fail))⟩ ?_
                      refine rl0 (gy rfl rfl rfl rfl rfl rfl) rfl rfl (step_unOp (c := .bool false) rfl (ev_mk rfl) (fun _ => rfl)) trivial ?_
                      refine rl0 (gn rfl) rfl rfl (step_pick rfl (ev_mk rfl) (ev_mk rfl)) trivial ?_
                      refine rl0 (gn rfl) rfl rfl (step_mv rfl rfl) trivial ?_
                      refine rl0 (gy rfl rfl rfl rfl rfl rfl) rfl rfl (step_mv rfl rfl) trivial ?_
                      refine rl0 (gy rfl rfl rfl rfl rfl rfl) rfl rfl (step_mv rfl rfl) trivial ?_
                      refine rl0 (gy rfl rfl rfl rfl rfl rfl) rfl rfl (step_len (m := (withR m (nIx (at' l (i : Int)).m c)).length) rfl rfl (ev_mk rfl) (.inl ⟨⟨_, Try.underlying27⟩, .inl ⟨_, _, .inl rfl, List.length_map _⟩⟩)) trivial ?_
                      refine rl_gtr (gy rfl rfl rfl rfl rfl rfl) rfl rfl rfl rfl rfl (fun h12 => ?_) (fun h12 => ?_)
                      · skip
                        refine rl0 (gy rfl rfl rfl rfl rfl rfl) rfl rfl (step_neqb rfl (ev_mk rfl) (ev_mk rfl) Try.underlying4) trivial ?_
                        refine rl_know (d := 170) (c := false) rfl (by rw [decide_eq_true (show 0 < L by omega)]; rfl) ?_
                        refine rl0 (gn rfl) rfl rfl (step_pick rfl (ev_mk rfl) (ev_mk rfl)) trivial ?_
                        refine rl0 (gn rfl) rfl rfl (step_mv rfl rfl) trivial ?_
                        refine rl0 (gy rfl rfl rfl rfl rfl rfl) rfl rfl (step_mv rfl rfl) trivial ?_
                        refine rl_know (d := 173) (c := true) rfl (decide_eq_true (by omega)) ?_
                        refine rl0 (gy rfl rfl rfl rfl rfl rfl) rfl rfl (step_mv rfl rfl) trivial ?_
                        refine rl0 (gy rfl rfl rfl rfl rfl rfl) rfl rfl (step_mv rfl rfl) trivial ?_
                        refine rl0 (gy rfl rfl rfl rfl rfl rfl) rfl rfl (step_mv rfl rfl) trivial ?_
                        refine' rl0 (gy rfl rfl rfl rfl rfl rfl) rfl rfl (step_index rfl (ev_mk rfl) (.inl rfl) (ev_mk rfl) Try.underlying27 F.sz33 (by omega) ?hr) trivial ?_
                        case hr => exact map_at _ _ _ (by omega) (by omega)
                        refine rl0 (gy rfl rfl rfl rfl rfl rfl) rfl rfl (step_fieldAddr_ro (off := 0) rfl (ev_mk rfl) Try.underlying33 rfl F.sz3 rfl rfl) trivial ?_
                        refine rl0 (gy rfl rfl rfl rfl rfl rfl) rfl rfl (step_load_ro rfl (ev_mk rfl) F.one3 rfl) trivial ?_
                        refine rl_neq (gy rfl rfl rfl rfl rfl rfl) rfl rfl rfl rfl rfl (fun h13 => ?_) (fun h13 => ?_)
                        · exact False.elim (by exact absurd (hst_.top (by omega)).1 h13)
                        refine rl0 (gy rfl rfl rfl rfl rfl rfl) rfl rfl (step_pick rfl (ev_mk rfl) (ev_mk rfl)) trivial ?_
                        refine rl0 (gn rfl) rfl rfl (step_pick rfl (ev_mk rfl) (ev_mk rfl)) trivial ?_
                        refine runsL_nil ?_
                        refine runs_cond false (ev_mk rfl) (fun h_ => nomatch h_) (fun _ => ?_)
                        refine runs_skip ?_
                        refine runs_region ?_
                        refine rl0 (gn rfl) rfl rfl (step_mv rfl rfl) trivial ?_
                        refine rl0 (gn rfl) rfl rfl (step_add rfl (ev_mk rfl) (ev_mk rfl) (w64 (by omega))) trivial ?_
                        refine rl0 (gn rfl) rfl rfl (step_as rfl rfl) trivial ?_
                        refine runsL_nil ?_
                        have hq0_ : ((i : Int) + 1) = ((i + 1) : Int) := by omega
                        refine ⟨_, _, ?_, sle ?_ (Nat.le_refl _), (i + 1), L, M, v, c, h, kf, (withR m (nIx (at' l (i : Int)).m c)), _, _, rfl, rfl, by omega, (fun k_ hk_ => by repeat (first | exact hf0 k_ hk_ | refine uN (by first | assumption | omega) ?_ | fail)), by first | ((repeat (first | exact uE | assumption | refine uN (by omega) ?_ | fail)); done) | exact tl_eq (by repeat (first | exact uE | assumption | refine uN (by omega) ?_ | fail)) (by first | rfl | (simp [bytesV, beB_len]; done) | (simp [bytesV, beB_len]; omega) | omega) | (rw [← hq0_]; (repeat (first | exact uE | assumption | refine uN (by omega) ?_ | fail)); done), by first | ((repeat (first | exact uE | assumption | refine uN (by omega) ?_ | fail)); done) | exact tl_eq (by repeat (first | exact uE | assumption | refine uN (by omega) ?_ | fail)) (by first | rfl | (simp [bytesV, beB_len]; done) | (simp [bytesV, beB_len]; omega) | omega) | (rw [← hq0_]; (repeat (first | exact uE | assumption | refine uN (by omega) ?_ | fail)); done), by first | ((repeat (first | exact uE | assumption | refine uN (by omega) ?_ | fail)); done) | exact tl_eq (by repeat (first | exact uE | assumption | refine uN (by omega) ?_ | fail)) (by first | rfl | (simp [bytesV, beB_len]; done) | (simp [bytesV, beB_len]; omega) | omega) | (rw [← hq0_]; (repeat (first | exact uE | assumption | refine uN (by omega) ?_ | fail)); done), ⟨by omega, by omega, by omega⟩, hst_1, (fun a_ ha_ => by repeat (first | exact hF0_2 a_ ha_ | refine uN (by omega) ?_ | fail)), (fun a_ h1_ h2_ => by repeat (first | exact hF0_3 a_ (by omega) h2_ | refine uN (by omega) ?_ | fail))⟩
                        · omega
                        · (repeat' (first | exact trivial | refine ⟨⟨_, rfl, ?_⟩, ?_⟩ | fail)); all_goals (repeat' (first | exact VLe.refl _ | exact VLe.own_sl _ _ _ | exact VLe.fl_sl _ _ | exact VLe.nil_sl _ | exact VLe.nil_fl _ | exact VLes.refl _ | exact .nil | refine VLe.tup ?_ | refine VLe.agg ?_ | refine .cons ?_ ?_ | (rw [Int.natCast_add]; exact VLe.refl _) | exact vle_int (by omega) | exact vle_bool (by first | rfl | assumption | (simp_all; done) | fail) | (rw [← hq0_]; exact VLe.refl _) | (rw [hq0_]; exact VLe.refl _) | fail))
                      · skip
                        refine rl0 (gy rfl rfl rfl rfl rfl rfl) rfl rfl (step_neqb rfl (ev_mk rfl) (ev_mk rfl) Try.underlying4) trivial ?_
                        refine rl_know (d := 170) (c := false) rfl (by rw [decide_eq_false (show ¬ 0 < L by omega)]; rfl) ?_
                        refine rl0 (gn rfl) rfl rfl (step_pick rfl (ev_mk rfl) (ev_mk rfl)) trivial ?_
                        refine rl0 (gn rfl) rfl rfl (step_mv rfl rfl) trivial ?_
                        refine rl0 (gy rfl rfl rfl rfl rfl rfl) rfl rfl (step_mv rfl rfl) trivial ?_
                        refine rl_know (d := 173) (c := false) rfl (decide_eq_false (by omega)) ?_
                        refine rl0 (gy rfl rfl rfl rfl rfl rfl) rfl rfl (step_mv rfl rfl) trivial ?_
                        refine rlk rfl rfl rfl rfl rfl (ngb rfl rfl) rfl rfl ?_
                        refine rlk rfl rfl rfl rfl rfl (ngb rfl rfl) rfl rfl ?_
                        refine rlk rfl rfl rfl rfl rfl (ngb rfl rfl) rfl rfl ?_
                        refine rlk rfl rfl rfl rfl rfl (ngb rfl rfl) rfl rfl ?_
                        refine rlk rfl rfl rfl rfl rfl (ngb rfl rfl) rfl rfl ?_
                        refine rlk rfl rfl rfl rfl rfl (ngb rfl rfl) rfl rfl ?_
                        refine rl0 (gy rfl rfl rfl rfl rfl rfl) rfl rfl (step_pick rfl (ev_mk rfl) (ev_mk rfl)) trivial ?_
                        refine rl0 (gn rfl) rfl rfl (step_pick rfl (ev_mk rfl) (ev_mk rfl)) trivial ?_
                        refine runsL_nil ?_
                        refine runs_cond false (ev_mk rfl) (fun h_ => nomatch h_) (fun _ => ?_)
                        refine runs_skip ?_
                        refine runs_region ?_
                        refine rl0 (gn rfl) rfl rfl (step_mv rfl rfl) trivial ?_
                        refine rl0 (gn rfl) rfl rfl (step_add rfl (ev_mk rfl) (ev_mk rfl) (w64 (by omega))) trivial ?_
                        refine rl0 (gn rfl) rfl rfl (step_as rfl rfl) trivial ?_
                        refine runsL_nil ?_
                        have hq0_ : ((i : Int) + 1) = ((i + 1) : Int) := by omega
                        refine ⟨_, _, ?_, sle ?_ (Nat.le_refl _), (i + 1), L, M, v, c, h, kf, (withR m (nIx (at' l (i : Int)).m c)), _, _, rfl, rfl, by omega, (fun k_ hk_ => by repeat (first | exact hf0 k_ hk_ | refine uN (by first | assumption | omega) ?_ | fail)), by first | ((repeat (first | exact uE | assumption | refine uN (by omega) ?_ | fail)); done) | exact tl_eq (by repeat (first | exact uE | assumption | refine uN (by omega) ?_ | fail)) (by first | rfl | (simp [bytesV, beB_len]; done) | (simp [bytesV, beB_len]; omega) | omega) | (rw [← hq0_]; (repeat (first | exact uE | assumption | refine uN (by omega) ?_ | fail)); done), by first | ((repeat (first | exact uE | assumption | refine uN (by omega) ?_ | fail)); done) | exact tl_eq (by repeat (first | exact uE | assumption | refine uN (by omega) ?_ | fail)) (by first | rfl | (simp [bytesV, beB_len]; done) | (simp [bytesV, beB_len]; omega) | omega) | (rw [← hq0_]; (repeat (first | exact uE | assumption | refine uN (by omega) ?_ | fail)); done), by first | ((repeat (first | exact uE | assumption | refine uN (by omega) ?_ | fail)); done) | exact tl_eq (by repeat (first | exact uE | assumption | refine uN (by omega) ?_ | fail)) (by first | rfl | (simp [bytesV, beB_len]; done) | (simp [bytesV, beB_len]; omega) | omega) | (rw [← hq0_]; (repeat (first | exact uE | assumption | refine uN (by omega) ?_ | fail)); done), ⟨by omega, by omega, by omega⟩, hst_1, (fun a_ ha_ => by repeat (first | exact hF0_2 a_ ha_ | refine uN (by omega) ?_ | fail)), (fun a_ h1_ h2_ => by repeat (first | exact hF0_3 a_ (by omega) h2_ | refine uN (by omega) ?_ | fail))⟩
                        · omega
                        · (repeat' (first | exact trivial | refine ⟨⟨_, rfl, ?_⟩, ?_⟩ | fail)); all_goals (repeat' (first | exact VLe.refl _ | exact VLe.own_sl _ _ _ | exact VLe.fl_sl _ _ | exact VLe.nil_sl _ | exact VLe.nil_fl _ | exact VLes.refl _ | exact .nil | refine VLe.tup ?_ | refine VLe.agg ?_ | refine .cons ?_ ?_ | (rw [Int.natCast_add]; exact VLe.refl _) | exact vle_int (by omega) | exact vle_bool (by first | rfl | assumption | (simp_all; done) | fail) | (rw [← hq0_]; exact VLe.refl _) | (rw [hq0_]; exact VLe.refl _) | fail))
                  · skip
                    refine rl0 (gn rfl) rfl rfl (step_as rfl rfl) trivial ?_
                    refine runsL_nil ?_
                    refine runs_cond false (ev_mk rfl) (fun h_ => nomatch h_) (fun _ => ?_)
                    refine runs_skip ?_
                    refine runs_seq ?_
                    have hst_ : Hst kf h L M c m := hF0_1
                    have hLm_ := hst_.rel.len
                    have hrn_ := rmN_le h L (nIx (at' l (i : Int)).m c)
                    refine runs_region ?_
                    refine rl0 (gn rfl) rfl rfl (step_mv rfl rfl) trivial ?_
                    refine rl0 (gn rfl) rfl rfl (step_callc rfl Try.func15 rfl rfl rfl (top_c kf h (n + 10) (n + 0) (n + 1) v L M c hst_.le hst_.lt) (by repeat (first | exact .nil | refine .cons ?_ ?_ | exact VLe.refl _ | exact vle_int (by omega) | exact vle_int (kgF_c _ _ _) | exact vle_int (kgF_c _ _ _).symm | exact VLe.own_sl _ _ _ | exact VLe.fl_sl _ _ | exact VLe.nil_sl _ | exact VLe.nil_fl _ | refine VLe.agg ?_))) ⟨by repeat (first | exact uE | refine uN (by omega) ?_ | assumption | exact hd _ (by omega) | exact hd0 _ (by omega) | fail), by repeat (first | exact uE | refine uN (by omega) ?_ | assumption | exact hd _ (by omega) | exact hd0 _ (by omega) | fail), fam_ok (fun a_ ha_ => by repeat (first | exact hF0_2 a_ ha_ | refine uN (by omega) ?_ | fail))⟩ ?_
                    refine rl0 (gn rfl) rfl rfl (step_mv rfl rfl) trivial ?_
                    refine rl0 (gn rfl) rfl rfl (step_extract rfl (ev_mk rfl) rfl) trivial ?_
                    refine rl0 (gn rfl) rfl rfl (step_extract rfl (ev_mk rfl) rfl) trivial ?_
                    refine rl0 (gn rfl) rfl rfl (step_as rfl rfl) trivial ?_
                    refine rl0 (gn rfl) rfl rfl (step_as rfl rfl) trivial ?_
                    refine runsL_nil ?_
                    refine runs_seq ?_
                    refine runs_region ?_
                    refine rl0 (gn rfl) rfl rfl (step_mv rfl rfl) trivial ?_
                    refine rl0 (gn rfl) rfl rfl (step_callc rfl Try.func16 rfl rfl rfl (len_c (n + 0) (n + 1) v L c) (by repeat (first | exact .nil | refine .cons ?_ ?_ | exact VLe.refl _ | exact vle_int (by omega) | exact vle_int (kgF_c _ _ _) | exact vle_int (kgF_c _ _ _).symm | exact VLe.own_sl _ _ _ | exact VLe.fl_sl _ _ | exact VLe.nil_sl _ | exact VLe.nil_fl _ | refine VLe.agg ?_))) ⟨by repeat (first | exact uE | refine uN (by omega) ?_ | assumption | exact hd _ (by omega) | exact hd0 _ (by omega) | fail), trivial⟩ ?_
                    refine rl0 (gn rfl) rfl rfl (step_mv rfl rfl) trivial ?_
                    refine rl0 (gn rfl) rfl rfl (step_len (m := m.length) rfl rfl (ev_mk rfl) (.inl ⟨⟨_, Try.underlying27⟩, .inl ⟨_, _, .inl rfl, List.length_map _⟩⟩)) trivial ?_
                    refine rl_neq (gn rfl) rfl rfl rfl rfl rfl (fun h10 => ?_) (fun h10 => ?_)
                    · exact False.elim (by omega)
                    refine rl0 (gn rfl) rfl rfl (step_mv rfl rfl) trivial ?_
                    refine rl0 (gy rfl rfl rfl rfl rfl rfl) rfl rfl (step_mv rfl rfl) trivial ?_
                    refine rl0 (gy rfl rfl rfl rfl rfl rfl) rfl rfl (step_callc rfl Try.func17 rfl rfl rfl (sound_c kf h (n + 10) (n + 0) (n + 1) v L M c hst_.le (by omega) hst_.inj hst_.lt hst_.rel.hp) (by repeat (first | exact .nil | refine .cons ?_ ?_ | exact VLe.refl _ | exact vle_int (by omega) | exact vle_int (kgF_c _ _ _) | exact vle_int (kgF_c _ _ _).symm | exact VLe.own_sl _ _ _ | exact VLe.fl_sl _ _ | exact VLe.nil_sl _ | exact VLe.nil_fl _ | refine VLe.agg ?_))) ⟨by repeat (first | exact uE | refine uN (by omega) ?_ | assumption | exact hd _ (by omega) | exact hd0 _ (by omega) | fail), by repeat (first | exact uE | refine uN (by omega) ?_ | assumption | exact hd _ (by omega) | exact hd0 _ (by omega) | fail), fam_ok (fun a_ ha_ => by repeat (first | exact hF0_2 a_ ha_ | refine uN (by omega) ?_ | fail))⟩ ?_
                    refine rl0 (gy rfl rfl rfl rfl rfl rfl) rfl rfl (step_unOp (c := .bool false) rfl (ev_mk rfl) (fun _ => rfl)) trivial ?_
                    refine rl0 (gn rfl) rfl rfl (step_pick rfl (ev_mk rfl) (ev_mk rfl)) trivial ?_
                    refine rl0 (gn rfl) rfl rfl (step_mv rfl rfl) trivial ?_
                    refine rl0 (gy rfl rfl rfl rfl rfl rfl) rfl rfl (step_mv rfl rfl) trivial ?_
                    refine rl0 (gy rfl rfl rfl rfl rfl rfl) rfl rfl (step_mv rfl rfl) trivial ?_
                    refine rl0 (gy rfl rfl rfl rfl rfl rfl) rfl rfl (step_len (m := m.length) rfl rfl (ev_mk rfl) (.inl ⟨⟨_, Try.underlying27⟩, .inl ⟨_, _, .inl rfl, List.length_map _⟩⟩)) trivial ?_
                    refine rl_gtr (gy rfl rfl rfl rfl rfl rfl) rfl rfl rfl rfl rfl (fun h11 => ?_) (fun h11 => ?_)
                    · skip
                      refine rl0 (gy rfl rfl rfl rfl rfl rfl) rfl rfl (step_neqb rfl (ev_mk rfl) (ev_mk rfl) Try.underlying4) trivial ?_
                      refine rl_know (d := 170) (c := false) rfl (by rw [decide_eq_true (show 0 < L by omega)]; rfl) ?_
                      refine rl0 (gn rfl) rfl rfl (step_pick rfl (ev_mk rfl) (ev_mk rfl)) trivial ?_
                      refine rl0 (gn rfl) rfl rfl (step_mv rfl rfl) trivial ?_
                      refine rl0 (gy rfl rfl rfl rfl rfl rfl) rfl rfl (step_mv rfl rfl) trivial ?_
                      refine rl_know (d := 173) (c := true) rfl (decide_eq_true (by omega)) ?_
                      refine rl0 (gy rfl rfl rfl rfl rfl rfl) rfl rfl (step_mv rfl rfl) trivial ?_
                      refine rl0 (gy rfl rfl rfl rfl rfl rfl) rfl rfl (step_mv rfl rfl) trivial ?_
                      refine rl0 (gy rfl rfl rfl rfl rfl rfl) rfl rfl (step_mv rfl rfl) trivial ?_
                      refine' rl0 (gy rfl rfl rfl rfl rfl rfl) rfl rfl (step_index rfl (ev_mk rfl) (.inl rfl) (ev_mk rfl) Try.underlying27 F.sz33 (by omega) ?hr) trivial ?_
                      case hr => exact map_at _ _ _ (by omega) (by omega)
                      refine rl0 (gy rfl rfl rfl rfl rfl rfl) rfl rfl (step_fieldAddr_ro (off := 0) rfl (ev_mk rfl) Try.underlying33 rfl F.sz3 rfl rfl) trivial ?_
                      refine rl0 (gy rfl rfl rfl rfl rfl rfl) rfl rfl (step_load_ro rfl (ev_mk rfl) F.one3 rfl) trivial ?_
                      refine rl_neq (gy rfl rfl rfl rfl rfl rfl) rfl rfl rfl rfl rfl (fun h12 => ?_) (fun h12 => ?_)
                      · exact False.elim (by exact absurd (hst_.top (by omega)).1 h12)
                      refine rl0 (gy rfl rfl rfl rfl rfl rfl) rfl rfl (step_pick rfl (ev_mk rfl) (ev_mk rfl)) trivial ?_
                      refine rl0 (gn rfl) rfl rfl (step_pick rfl (ev_mk rfl) (ev_mk rfl)) trivial ?_
                      refine runsL_nil ?_
                      refine runs_cond false (ev_mk rfl) (fun h_ => nomatch h_) (fun _ => ?_)
                      refine runs_skip ?_
                      refine runs_region ?_
                      refine rl0 (gn rfl) rfl rfl (step_mv rfl rfl) trivial ?_
                      refine rl0 (gn rfl) rfl rfl (step_add rfl (ev_mk rfl) (ev_mk rfl) (w64 (by omega))) trivial ?_
                      refine rl0 (gn rfl) rfl rfl (step_as rfl rfl) trivial ?_
                      refine runsL_nil ?_
                      have hq0_ : ((i : Int) + 1) = ((i + 1) : Int) := by omega
                      refine ⟨_, _, ?_, sle ?_ (Nat.le_refl _), (i + 1), L, M, v, c, h, kf, m, _, _, rfl, rfl, by omega, (fun k_ hk_ => by repeat (first | exact hf0 k_ hk_ | refine uN (by first | assumption | omega) ?_ | fail)), by first | ((repeat (first | exact uE | assumption | refine uN (by omega) ?_ | fail)); done) | exact tl_eq (by repeat (first | exact uE | assumption | refine uN (by omega) ?_ | fail)) (by first | rfl | (simp [bytesV, beB_len]; done) | (simp [bytesV, beB_len]; omega) | omega) | (rw [← hq0_]; (repeat (first | exact uE | assumption | refine uN (by omega) ?_ | fail)); done), by first | ((repeat (first | exact uE | assumption | refine uN (by omega) ?_ | fail)); done) | exact tl_eq (by repeat (first | exact uE | assumption | refine uN (by omega) ?_ | fail)) (by first | rfl | (simp [bytesV, beB_len]; done) | (simp [bytesV, beB_len]; omega) | omega) | (rw [← hq0_]; (repeat (first | exact uE | assumption | refine uN (by omega) ?_ | fail)); done), by first | ((repeat (first | exact uE | assumption | refine uN (by omega) ?_ | fail)); done) | exact tl_eq (by repeat (first | exact uE | assumption | refine uN (by omega) ?_ | fail)) (by first | rfl | (simp [bytesV, beB_len]; done) | (simp [bytesV, beB_len]; omega) | omega) | (rw [← hq0_]; (repeat (first | exact uE | assumption | refine uN (by omega) ?_ | fail)); done), ⟨by omega, by omega, by omega⟩, hF0_1, (fun a_ ha_ => by repeat (first | exact hF0_2 a_ ha_ | refine uN (by omega) ?_ | fail)), (fun a_ h1_ h2_ => by repeat (first | exact hF0_3 a_ (by omega) h2_ | refine uN (by omega) ?_ | fail))⟩
                      · omega
                      · (repeat' (first | exact trivial | refine ⟨⟨_, rfl, ?_⟩, ?_⟩ | fail)); all_goals (repeat' (first | exact VLe.refl _ | exact VLe.own_sl _ _ _ | exact VLe.fl_sl _ _ | exact VLe.nil_sl _ | exact VLe.nil_fl _ | exact VLes.refl _ | exact .nil | refine VLe.tup ?_ | refine VLe.agg ?_ | refine .cons ?_ ?_ | (rw [Int.natCast_add]; exact VLe.refl _) | exact vle_int (by omega) | exact vle_bool (by first | rfl | assumption | (simp_all; done) | fail) | (rw [← hq0_]; exact VLe.refl _) | (rw [hq0_]; exact VLe.refl _) | fail))
                    · skip
                      refine rl0 (gy rfl rfl rfl rfl rfl rfl) rfl rfl (step_neqb rfl (ev_mk rfl) (ev_mk rfl) Try.underlying4) trivial ?_
                      refine rl_know (d := 170) (c := false) rfl (by rw [decide_eq_false (show ¬ 0 < L by omega)]; rfl) ?_
                      refine rl0 (gn rfl) rfl rfl (step_pick rfl (ev_mk rfl) (ev_mk rfl)) trivial ?_
                      refine rl0 (gn rfl) rfl rfl (step_mv rfl rfl) trivial ?_
                      refine rl0 (gy rfl rfl rfl rfl rfl rfl) rfl rfl (step_mv rfl rfl) trivial ?_
                      refine rl_know (d := 173) (c := false) rfl (decide_eq_false (by omega)) ?_
                      refine rl0 (gy rfl rfl rfl rfl rfl rfl) rfl rfl (step_mv rfl rfl) trivial ?_
                      refine rlk rfl rfl rfl rfl rfl (ngb rfl rfl) rfl rfl ?_
                      refine rlk rfl rfl rfl rfl rfl (ngb rfl rfl) rfl rfl ?_
                      refine rlk rfl rfl rfl rfl rfl (ngb rfl rfl) rfl rfl ?_
                      refine rlk rfl rfl rfl rfl rfl (ngb rfl rfl) rfl rfl ?_
                      refine rlk rfl rfl rfl rfl rfl (ngb rfl rfl) rfl rfl ?_
                      refine rlk rfl rfl rfl rfl rfl (ngb rfl rfl) rfl rfl ?_
                      refine rl0 (gy rfl rfl rfl rfl rfl rfl) rfl rfl (step_pick rfl (ev_mk rfl) (ev_mk rfl)) trivial ?_
                      refine rl0 (gn rfl) rfl rfl (step_pick rfl (ev_mk rfl) (ev_mk rfl)) trivial ?_
                      refine runsL_nil ?_
                      refine runs_cond false (ev_mk rfl) (fun h_ => nomatch h_) (fun _ => ?_)
                      refine runs_skip ?_
                      refine runs_region ?_
                      refine rl0 (gn rfl) rfl rfl (step_mv rfl rfl) trivial ?_
                      refine rl0 (gn rfl) rfl rfl (step_add rfl (ev_mk rfl) (ev_mk rfl) (w64 (by omega))) trivial ?_
                      refine rl0 (gn rfl) rfl rfl (step_as rfl rfl) trivial ?_
                      refine runsL_nil ?_
                      have hq0_ : ((i : Int) + 1) = ((i + 1) : Int) := by omega
                      refine ⟨_, _, ?_, sle ?_ (Nat.le_refl _), (i + 1), L, M, v, c, h, kf, m, _, _, rfl, rfl, by omega, (fun k_ hk_ => by repeat (first | exact hf0 k_ hk_ | refine uN (by first | assumption | omega) ?_ | fail)), by first | ((repeat (first | exact uE | assumption | refine uN (by omega) ?_ | fail)); done) | exact tl_eq (by repeat (first | exact uE | assumption | refine uN (by omega) ?_ | fail)) (by first | rfl | (simp [bytesV, beB_len]; done) | (simp [bytesV, beB_len]; omega) | omega) | (rw [← hq0_]; (repeat (first | exact uE | assumption | refine uN (by omega) ?_ | fail)); done), by first | ((repeat (first | exact uE | assumption | refine uN (by omega) ?_ | fail)); done) | exact tl_eq (by repeat (first | exact uE | assumption | refine uN (by omega) ?_ | fail)) (by first | rfl | (simp [bytesV, beB_len]; done) | (simp [bytesV, beB_len]; omega) | omega) | (rw [← hq0_]; (repeat (first | exact uE | assumption | refine uN (by omega) ?_ | fail)); done), by first | ((repeat (first | exact uE | assumption | refine uN (by omega) ?_ | fail)); done) | exact tl_eq (by repeat (first | exact uE | assumption | refine uN (by omega) ?_ | fail)) (by first | rfl | (simp [bytesV, beB_len]; done) | (simp [bytesV, beB_len]; omega) | omega) | (rw [← hq0_]; (repeat (first | exact uE | assumption | refine uN (by omega) ?_ | fail)); done), ⟨by omega, by omega, by omega⟩, hF0_1, (fun a_ ha_ => by repeat (first | exact hF0_2 a_ ha_ | refine uN (by omega) ?_ | fail)), (fun a_ h1_ h2_ => by repeat (first | exact hF0_3 a_ (by omega) h2_ | refine uN (by omega) ?_ | fail))⟩
                      · omega
                      · (repeat' (first | exact trivial | refine ⟨⟨_, rfl, ?_⟩, ?_⟩ | fail)); all_goals (repeat' (first | exact VLe.refl _ | exact VLe.own_sl _ _ _ | exact VLe.fl_sl _ _ | exact VLe.nil_sl _ | exact VLe.nil_fl _ | exact VLes.refl _ | exact .nil | refine VLe.tup ?_ | refine VLe.agg ?_ | refine .cons ?_ ?_ | (rw [Int.natCast_add]; exact VLe.refl _) | exact vle_int (by omega) | exact vle_bool (by first | rfl | assumption | (simp_all; done) | fail) | (rw [← hq0_]; exact VLe.refl _) | (rw [hq0_]; exact VLe.refl _) | fail))
        · skip
          refine runsL_nil ?_
          refine runs_cond false (ev_mk rfl) (fun h_ => nomatch h_) (fun _ => ?_)
          refine runs_skip ?_
          refine runs_seq ?_
          refine runs_block ?_
          refine runs_seq ?_
          refine runs_region ?_
          refine rl0 (gn rfl) rfl rfl (step_fieldAddr (off := 0) rfl (ev_mk rfl) Try.underlying30 rfl F.sz3 rfl) trivial ?_
          refine' rl0 (gn rfl) rfl rfl (step_load_one rfl (ev_mk rfl) F.one3 ?hv) ⟨?hb, trivial⟩ ?_
          case hb => repeat (first | exact uE | refine uN (by omega) ?_ | assumption | exact hd _ (by omega) | exact hd0 _ (by omega) | fail)
          case hv => rfl
          refine rl_eql (gn rfl) rfl rfl rfl rfl rfl (fun h4 => ?_) (fun h4 => ?_)
          · skip
            refine rl0 (gn rfl) rfl rfl (step_mv rfl rfl) trivial ?_
            refine rlk rfl rfl rfl rfl rfl (ngb rfl rfl) rfl rfl ?_
            refine rlk rfl rfl rfl rfl rfl (ngb rfl rfl) rfl rfl ?_
            refine rlk rfl rfl rfl rfl rfl (ngb rfl rfl) rfl rfl ?_
            refine rl0 (gn rfl) rfl rfl (step_pick rfl (ev_mk rfl) (ev_mk rfl)) trivial ?_
            refine rl0 (gn rfl) rfl rfl (step_as rfl rfl) trivial ?_
            refine runsL_nil ?_
            refine runs_cond true (ev_mk rfl) (fun _ => ?_) (fun h_ => nomatch h_)
            refine runs_seq ?_
            refine runs_region ?_
            refine rl0 (gn rfl) rfl rfl (step_mv rfl rfl) trivial ?_
            refine rl0 (gn rfl) rfl rfl (step_fieldAddr (off := 1) rfl (ev_mk rfl) Try.underlying30 rfl F.sz3 rfl) trivial ?_
            refine' rl0 (gn rfl) rfl rfl (step_load_one rfl (ev_mk rfl) F.one3 ?hv) ⟨?hb, trivial⟩ ?_
            case hb => repeat (first | exact uE | refine uN (by omega) ?_ | assumption | exact hd _ (by omega) | exact hd0 _ (by omega) | fail)
            case hv => rfl
            refine rl0 (gn rfl) rfl rfl (step_mv rfl rfl) trivial ?_
            refine rl0 (gn rfl) rfl rfl (step_len (m := c) rfl rfl (ev_mk rfl) (.inl ⟨⟨_, Try.underlying28⟩, .inl ⟨_, _, .inr (.inr ⟨_, rfl⟩), allR_len _ _⟩⟩)) trivial ?_
            refine rl0 (gn rfl) rfl rfl (step_build (ss := [1, 1]) (zs := [.int .i64 0, .int .i64 0]) rfl Try.underlying33 (by kernel_rfl) F.zero33 rfl rfl rfl) trivial ?_
            refine rl0 (gn rfl) rfl rfl (step_callc rfl Try.func9 rfl rfl rfl (insert_c m ⟨(at' l (i : Int)).k, c⟩ (by omega)) (by repeat (first | exact .nil | refine .cons ?_ ?_ | exact VLe.refl _ | exact vle_int (by omega) | exact vle_int (kgF_c _ _ _) | exact vle_int (kgF_c _ _ _).symm | exact VLe.own_sl _ _ _ | exact VLe.fl_sl _ _ | exact VLe.nil_sl _ | exact VLe.nil_fl _ | refine VLe.agg ?_))) trivial ?_
            refine rl0 (gn rfl) rfl rfl (step_as rfl rfl) trivial ?_
            refine runsL_nil ?_
            have hdd_ : b0 (n + 10 + c) = .dead := hF0_3 c (by omega) (by omega)
            refine runs_region ?_
            refine rl0 (gn rfl) rfl rfl (step_mv rfl rfl) trivial ?_
            refine rl0 (gn rfl) rfl rfl (step_mv rfl rfl) trivial ?_
            refine rl0 (gn rfl) rfl rfl (step_fieldAddr (off := 1) rfl (ev_mk rfl) Try.underlying30 rfl F.sz3 rfl) trivial ?_
            refine' rl0 (gn rfl) rfl rfl (step_load_one rfl (ev_mk rfl) F.one3 ?hv) ⟨?hb, trivial⟩ ?_
            case hb => repeat (first | exact uE | refine uN (by omega) ?_ | assumption | exact hd _ (by omega) | exact hd0 _ (by omega) | fail)
            case hv => rfl
            refine rl_fam (gn rfl) rfl rfl (step_callc rfl Try.func10 rfl rfl rfl (push_c (kgF kf c (at' l (i : Int)).k) h (n + 10) (n + 0) (n + 1) v L M c hF0_1.le (by omega) (by omega) hF0_1.inj (fun j_ h_ => hF0_1.lt j_ (by have := hF0_1.le; omega)) (by omega) (by omega) (by omega)) (by repeat (first | exact .nil | refine .cons ?_ ?_ | exact VLe.refl _ | exact vle_int (by omega) | exact vle_int (kgF_c _ _ _) | exact vle_int (kgF_c _ _ _).symm | exact VLe.own_sl _ _ _ | exact VLe.fl_sl _ _ | exact VLe.nil_sl _ | exact VLe.nil_fl _ | refine VLe.agg ?_))) ⟨by repeat (first | exact uE | refine uN (by omega) ?_ | assumption | exact hd _ (by omega) | exact hd0 _ (by omega) | fail), by repeat (first | exact uE | refine uN (by omega) ?_ | assumption | exact hd _ (by omega) | exact hd0 _ (by omega) | fail), by repeat (first | exact uE | refine uN (by omega) ?_ | assumption | exact hd _ (by omega) | exact hd0 _ (by omega) | fail), fam_ok (fam_kg (fun a_ ha_ => by repeat (first | exact hF0_2 a_ ha_ | refine uN (by omega) ?_ | fail)))⟩ (by repeat (first | exact trivial | refine ⟨by omega, ?_⟩)) (by omega) (fun bz6 hfam6 hfz6 => ?_)
            simp only [upds] at hfz6
            have hst_1 : Hst (kgF kf c (at' l (i : Int)).k) (upF (kgF kf c (at' l (i : Int)).k) L (upd1 h L c) L) (L + 1) (L + 1) (c + 1) (insR m ⟨(at' l (i : Int)).k, c⟩) := hF0_1.put
            refine rl0 (gn rfl) rfl rfl (step_lit rfl Try.underlying28 F.sz34 F.zero34 (by first | rfl | simp) (by first | rfl | simp | decide) (by decide) rfl rfl (by first | (simp [V.cs, V.stor, oneV]; done) | (simp [V.cs, V.stor, oneV])) rfl) trivial ?_
            refine' rl1 (gn rfl) rfl rfl (step_append_own rfl rfl rfl Try.underlying28 ⟨_, Try.underlying28, fun k_ => by intro h_; cases h_⟩ F.el34 (ev_mk rfl) (ev_mk rfl) (gives_sl (.inr (.inl rfl))) ?hg) ⟨?hb, trivial⟩ (by omega) ?_
            case hb => repeat (first | exact uE | refine uN (by omega) ?_ | assumption | exact hd _ (by omega) | exact hd0 _ (by omega) | refine (hfz6 _ (by first | assumption | omega)).trans ?_ | fail)
            case hg => (rw [allR_len]; show c + 1 ≤ 1073741824; omega)
            refine rl0 (gn rfl) rfl rfl (step_as rfl rfl) trivial ?_
            refine runsL_nil ?_
            refine runs_seq ?_
            have hst_ : Hst (kgF kf c (at' l (i : Int)).k) (upF (kgF kf c (at' l (i : Int)).k) L (upd1 h L c) L) (L + 1) (L + 1) (c + 1) (insR m ⟨(at' l (i : Int)).k, c⟩) := hst_1
            have hLm_ := hst_.rel.len
            have hrn_ := rmN_le h L (nIx (at' l (i : Int)).m c)
            refine runs_region ?_
            refine rl0 (gn rfl) rfl rfl (step_mv rfl rfl) trivial ?_
            refine rl0 (gn rfl) rfl rfl (step_callc rfl Try.func15 rfl rfl rfl (top_c (kgF kf c (at' l (i : Int)).k) (upF (kgF kf c (at' l (i : Int)).k) L (upd1 h L c) L) (n + 10) (n + 0) (n + 1) (v + 1) (L + 1) (L + 1) (c + 1) hst_.le hst_.lt) (by repeat (first | exact .nil | refine .cons ?_ ?_ | exact VLe.refl _ | exact vle_int (by omega) | exact vle_int (kgF_c _ _ _) | exact vle_int (kgF_c _ _ _).symm | exact VLe.own_sl _ _ _ | exact VLe.fl_sl _ _ | exact VLe.nil_sl _ | exact VLe.nil_fl _ | refine VLe.agg ?_))) ⟨by repeat (first | exact uE | refine uN (by omega) ?_ | assumption | exact hd _ (by omega) | exact hd0 _ (by omega) | refine (hfz6 _ (by first | assumption | omega)).trans ?_ | fail), by repeat (first | exact uE | refine uN (by omega) ?_ | assumption | exact hd _ (by omega) | exact hd0 _ (by omega) | refine (hfz6 _ (by first | assumption | omega)).trans ?_ | fail), fam_ok (fun a_ ha_ => by repeat (first | exact hfam6 a_ ha_ | refine uN (by omega) ?_ | refine (hfz6 _ (by first | assumption | omega)).trans ?_ | fail))⟩ ?_
            refine rl0 (gn rfl) rfl rfl (step_mv rfl rfl) trivial ?_
            refine rl0 (gn rfl) rfl rfl (step_extract rfl (ev_mk rfl) rfl) trivial ?_
            refine rl0 (gn rfl) rfl rfl (step_extract rfl (ev_mk rfl) rfl) trivial ?_
            refine rl0 (gn rfl) rfl rfl (step_as rfl rfl) trivial ?_
            refine rl0 (gn rfl) rfl rfl (step_as rfl rfl) trivial ?_
            refine runsL_nil ?_
            refine runs_seq ?_
            refine runs_region ?_
            refine rl0 (gn rfl) rfl rfl (step_mv rfl rfl) trivial ?_
            refine rl0 (gn rfl) rfl rfl (step_callc rfl Try.func16 rfl rfl rfl (len_c (n + 0) (n + 1) (v + 1) (L + 1) (c + 1)) (by repeat (first | exact .nil | refine .cons ?_ ?_ | exact VLe.refl _ | exact vle_int (by omega) | exact vle_int (kgF_c _ _ _) | exact vle_int (kgF_c _ _ _).symm | exact VLe.own_sl _ _ _ | exact VLe.fl_sl _ _ | exact VLe.nil_sl _ | exact VLe.nil_fl _ | refine VLe.agg ?_))) ⟨by repeat (first | exact uE | refine uN (by omega) ?_ | assumption | exact hd _ (by omega) | exact hd0 _ (by omega) | refine (hfz6 _ (by first | assumption | omega)).trans ?_ | fail), trivial⟩ ?_
            refine rl0 (gn rfl) rfl rfl (step_mv rfl rfl) trivial ?_
            refine rl0 (gn rfl) rfl rfl (step_len (m := (insR m ⟨(at' l (i : Int)).k, c⟩).length) rfl rfl (ev_mk rfl) (.inl ⟨⟨_, Try.underlying27⟩, .inl ⟨_, _, .inl rfl, List.length_map _⟩⟩)) trivial ?_
            refine rl_neq (gn rfl) rfl rfl rfl rfl rfl (fun h5 => ?_) (fun h5 => ?_)
            · exact False.elim (by omega)
            refine rl0 (gn rfl) rfl rfl (step_mv rfl rfl) trivial ?_
            refine rl0 (gy rfl rfl rfl rfl rfl rfl) rfl rfl (step_mv rfl rfl) trivial ?_
            refine rl0 (gy rfl rfl rfl rfl rfl rfl) rfl rfl (step_callc rfl Try.func17 rfl rfl rfl (sound_c (kgF kf c (at' l (i : Int)).k) (upF (kgF kf c (at' l (i : Int)).k) L (upd1 h L c) L) (n + 10) (n + 0) (n + 1) (v + 1) (L + 1) (L + 1) (c + 1) hst_.le (by omega) hst_.inj hst_.lt hst_.rel.hp) (by repeat (first | exact .nil | refine .cons ?_ ?_ | exact VLe.refl _ | exact vle_int (by omega) | exact vle_int (kgF_c _ _ _) | exact vle_int (kgF_c _ _ _).symm | exact VLe.own_sl _ _ _ | exact VLe.fl_sl _ _ | exact VLe.nil_sl _ | exact VLe.nil_fl _ | refine VLe.agg ?_))) ⟨by repeat (first | exact uE | refine uN (by omega) ?_ | assumption | exact hd _ (by omega) | exact hd0 _ (by omega) | refine (hfz6 _ (by first | assumption | omega)).trans ?_ | fail), by repeat (first | exact uE | refine uN (by omega) ?_ | assumption | exact hd _ (by omega) | exact hd0 _ (by omega) | refine (hfz6 _ (by first | assumption | omega)).trans ?_ | fail), fam_ok (fun a_ ha_ => by repeat (first | exact hfam6 a_ ha_ | refine uN (by omega) ?_ | refine (hfz6 _ (by first | assumption | omega)).trans ?_ | fail))⟩ ?_
            refine rl0 (gy rfl rfl rfl rfl rfl rfl) rfl rfl (step_unOp (c := .bool false) rfl (ev_mk rfl) (fun _ => rfl)) trivial ?_
            refine rl0 (gn rfl) rfl rfl (step_pick rfl (ev_mk rfl) (ev_mk rfl)) trivial ?_
            refine rl0 (gn rfl) rfl rfl (step_mv rfl rfl) trivial ?_
            refine rl0 (gy rfl rfl rfl rfl rfl rfl) rfl rfl (step_mv rfl rfl) trivial ?_
            refine rl0 (gy rfl rfl rfl rfl rfl rfl) rfl rfl (step_mv rfl rfl) trivial ?_
            refine rl0 (gy rfl rfl rfl rfl rfl rfl) rfl rfl (step_len (m := (insR m ⟨(at' l (i : Int)).k, c⟩).length) rfl rfl (ev_mk rfl) (.inl ⟨⟨_, Try.underlying27⟩, .inl ⟨_, _, .inl rfl, List.length_map _⟩⟩)) trivial ?_
            refine rl_gtr (gy rfl rfl rfl rfl rfl rfl) rfl rfl rfl rfl rfl (fun h6 => ?_) (fun h6 => ?_)
            · skip
              refine rl0 (gy rfl rfl rfl rfl rfl rfl) rfl rfl (step_neqb rfl (ev_mk rfl) (ev_mk rfl) Try.underlying4) trivial ?_
              refine rl_know (d := 170) (c := false) rfl (by rw [decide_eq_true (show 0 < L + 1 by omega)]; rfl) ?_
              refine rl0 (gn rfl) rfl rfl (step_pick rfl (ev_mk rfl) (ev_mk rfl)) trivial ?_
              refine rl0 (gn rfl) rfl rfl (step_mv rfl rfl) trivial ?_
              refine rl0 (gy rfl rfl rfl rfl rfl rfl) rfl rfl (step_mv rfl rfl) trivial ?_
              refine rl_know (d := 173) (c := true) rfl (decide_eq_true (by omega)) ?_
              refine rl0 (gy rfl rfl rfl rfl rfl rfl) rfl rfl (step_mv rfl rfl) trivial ?_
              refine rl0 (gy rfl rfl rfl rfl rfl rfl) rfl rfl (step_mv rfl rfl) trivial ?_
              refine rl0 (gy rfl rfl rfl rfl rfl rfl) rfl rfl (step_mv rfl rfl) trivial ?_
              refine' rl0 (gy rfl rfl rfl rfl rfl rfl) rfl rfl (step_index rfl (ev_mk rfl) (.inl rfl) (ev_mk rfl) Try.underlying27 F.sz33 (by omega) ?hr) trivial ?_
              case hr => exact map_at _ _ _ (by omega) (by omega)
              refine rl0 (gy rfl rfl rfl rfl rfl rfl) rfl rfl (step_fieldAddr_ro (off := 0) rfl (ev_mk rfl) Try.underlying33 rfl F.sz3 rfl rfl) trivial ?_
              refine rl0 (gy rfl rfl rfl rfl rfl rfl) rfl rfl (step_load_ro rfl (ev_mk rfl) F.one3 rfl) trivial ?_
              refine rl_neq (gy rfl rfl rfl rfl rfl rfl) rfl rfl rfl rfl rfl (fun h7 => ?_) (fun h7 => ?_)
              · exact False.elim (by exact absurd (hst_.top (by omega)).1 h7)
              refine rl0 (gy rfl rfl rfl rfl rfl rfl) rfl rfl (step_pick rfl (ev_mk rfl) (ev_mk rfl)) trivial ?_
              refine rl0 (gn rfl) rfl rfl (step_pick rfl (ev_mk rfl) (ev_mk rfl)) trivial ?_
              refine runsL_nil ?_
              refine runs_cond false (ev_mk rfl) (fun h_ => nomatch h_) (fun _ => ?_)
              refine runs_skip ?_
              refine runs_region ?_
              refine rl0 (gn rfl) rfl rfl (step_mv rfl rfl) trivial ?_
              refine rl0 (gn rfl) rfl rfl (step_add rfl (ev_mk rfl) (ev_mk rfl) (w64 (by omega))) trivial ?_
              refine rl0 (gn rfl) rfl rfl (step_as rfl rfl) trivial ?_
              refine runsL_nil ?_
              have hq0_ : (allR (n + 10) c) ++ [[V.ref ((n + 10) + c) 0]] = (allR (n + 10) (c + 1)) := by exact allR_s _ _
              have hq1_ : ((i : Int) + 1) = ((i + 1) : Int) := by omega
              refine ⟨_, _, ?_, sle ?_ (Nat.le_refl _), (i + 1), (L + 1), (L + 1), (v + 1), (c + 1), (upF (kgF kf c (at' l (i : Int)).k) L (upd1 h L c) L), (kgF kf c (at' l (i : Int)).k), (insR m ⟨(at' l (i : Int)).k, c⟩), _, _, rfl, rfl, by omega, (fun k_ hk_ => by repeat (first | exact hf0 k_ hk_ | refine (hfz6 _ (by first | assumption | omega)).trans ?_ | refine uN (by first | assumption | omega) ?_ | fail)), by first | ((repeat (first | exact uE | assumption | refine uN (by omega) ?_ | refine (hfz6 _ (by first | assumption | omega)).trans ?_ | fail)); done) | exact tl_eq (by repeat (first | exact uE | assumption | refine uN (by omega) ?_ | refine (hfz6 _ (by first | assumption | omega)).trans ?_ | fail)) (by first | rfl | (simp [bytesV, beB_len]; done) | (simp [bytesV, beB_len]; omega) | omega) | (rw [← hq0_]; (repeat (first | exact uE | assumption | refine uN (by omega) ?_ | refine (hfz6 _ (by first | assumption | omega)).trans ?_ | fail)); done) | (rw [← hq1_]; (repeat (first | exact uE | assumption | refine uN (by omega) ?_ | refine (hfz6 _ (by first | assumption | omega)).trans ?_ | fail)); done) | (rw [← hq0_, ← hq1_]; (repeat (first | exact uE | assumption | refine uN (by omega) ?_ | refine (hfz6 _ (by first | assumption | omega)).trans ?_ | fail)); done), by first | ((repeat (first | exact uE | assumption | refine uN (by omega) ?_ | refine (hfz6 _ (by first | assumption | omega)).trans ?_ | fail)); done) | exact tl_eq (by repeat (first | exact uE | assumption | refine uN (by omega) ?_ | refine (hfz6 _ (by first | assumption | omega)).trans ?_ | fail)) (by first | rfl | (simp [bytesV, beB_len]; done) | (simp [bytesV, beB_len]; omega) | omega) | (rw [← hq0_]; (repeat (first | exact uE | assumption | refine uN (by omega) ?_ | refine (hfz6 _ (by first | assumption | omega)).trans ?_ | fail)); done) | (rw [← hq1_]; (repeat (first | exact uE | assumption | refine uN (by omega) ?_ | refine (hfz6 _ (by first | assumption | omega)).trans ?_ | fail)); done) | (rw [← hq0_, ← hq1_]; (repeat (first | exact uE | assumption | refine uN (by omega) ?_ | refine (hfz6 _ (by first | assumption | omega)).trans ?_ | fail)); done), by first | ((repeat (first | exact uE | assumption | refine uN (by omega) ?_ | refine (hfz6 _ (by first | assumption | omega)).trans ?_ | fail)); done) | exact tl_eq (by repeat (first | exact uE | assumption | refine uN (by omega) ?_ | refine (hfz6 _ (by first | assumption | omega)).trans ?_ | fail)) (by first | rfl | (simp [bytesV, beB_len]; done) | (simp [bytesV, beB_len]; omega) | omega) | (rw [← hq0_]; (repeat (first | exact uE | assumption | refine uN (by omega) ?_ | refine (hfz6 _ (by first | assumption | omega)).trans ?_ | fail)); done) | (rw [← hq1_]; (repeat (first | exact uE | assumption | refine uN (by omega) ?_ | refine (hfz6 _ (by first | assumption | omega)).trans ?_ | fail)); done) | (rw [← hq0_, ← hq1_]; (repeat (first | exact uE | assumption | refine uN (by omega) ?_ | refine (hfz6 _ (by first | assumption | omega)).trans ?_ | fail)); done), ⟨by omega, by omega, by omega⟩, hst_1, (fun a_ ha_ => by repeat (first | exact hfam6 a_ ha_ | refine uN (by omega) ?_ | refine (hfz6 _ (by first | assumption | omega)).trans ?_ | fail)), (fun a_ h1_ h2_ => by repeat (first | exact hF0_3 a_ (by omega) h2_ | refine uN (by omega) ?_ | refine (hfz6 _ (by first | assumption | omega)).trans ?_ | fail))⟩
              · omega
              · (repeat' (first | exact trivial | refine ⟨⟨_, rfl, ?_⟩, ?_⟩ | fail)); all_goals (repeat' (first | exact VLe.refl _ | exact VLe.own_sl _ _ _ | exact VLe.fl_sl _ _ | exact VLe.nil_sl _ | exact VLe.nil_fl _ | exact VLes.refl _ | exact .nil | refine VLe.tup ?_ | refine VLe.agg ?_ | refine .cons ?_ ?_ | (rw [Int.natCast_add]; exact VLe.refl _) | exact vle_int (by omega) | exact vle_bool (by first | rfl | assumption | (simp_all; done) | fail) | (rw [← hq0_]; exact VLe.refl _) | (rw [hq0_]; exact VLe.refl _) | (rw [← hq1_]; exact VLe.refl _) | (rw [hq1_]; exact VLe.refl _) | fail))
            · skip
              refine rl0 (gy rfl rfl rfl rfl rfl rfl) rfl rfl (step_neqb rfl (ev_mk rfl) (ev_mk rfl) Try.underlying4) trivial ?_
              refine rl_know (d := 170) (c := false) rfl (by rw [decide_eq_false (show ¬ 0 < L + 1 by omega)]; rfl) ?_
              refine rl0 (gn rfl) rfl rfl (step_pick rfl (ev_mk rfl) (ev_mk rfl)) trivial ?_
              refine rl0 (gn rfl) rfl rfl (step_mv rfl rfl) trivial ?_
              refine rl0 (gy rfl rfl rfl rfl rfl rfl) rfl rfl (step_mv rfl rfl) trivial ?_
              refine rl_know (d := 173) (c := false) rfl (decide_eq_false (by omega)) ?_
              refine rl0 (gy rfl rfl rfl rfl rfl rfl) rfl rfl (step_mv rfl rfl) trivial ?_
              refine rlk rfl rfl rfl rfl rfl (ngb rfl rfl) rfl rfl ?_
              refine rlk rfl rfl rfl rfl rfl (ngb rfl rfl) rfl rfl ?_
              refine rlk rfl rfl rfl rfl rfl (ngb rfl rfl) rfl rfl ?_
              refine rlk rfl rfl rfl rfl rfl (ngb rfl rfl) rfl rfl ?_
              refine rlk rfl rfl rfl rfl rfl (ngb rfl rfl) rfl rfl ?_
              refine rlk rfl rfl rfl rfl rfl (ngb rfl rfl) rfl rfl ?_
              refine rl0 (gy rfl rfl rfl rfl rfl rfl) rfl rfl (step_pick rfl (ev_mk rfl) (ev_mk rfl)) trivial ?_
              refine rl0 (gn rfl) rfl rfl (step_pick rfl (ev_mk rfl) (ev_mk rfl)) trivial ?_
              refine runsL_nil ?_
              refine runs_cond false (ev_mk rfl) (fun h_ => nomatch h_) (fun _ => ?_)
              refine runs_skip ?_
              refine runs_region ?_
              refine rl0 (gn rfl) rfl rfl (step_mv rfl rfl) trivial ?_
              refine rl0 (gn rfl) rfl rfl (step_add rfl (ev_mk rfl) (ev_mk rfl) (w64 (by omega))) trivial ?_
              refine rl0 (gn rfl) rfl rfl (step_as rfl rfl) trivial ?_
              refine runsL_nil ?_
              have hq0_ : (allR (n + 10) c) ++ [[V.ref ((n + 10) + c) 0]] = (allR (n + 10) (c + 1)) := by exact allR_s _ _
              have hq1_ : ((i : Int) + 1) = ((i + 1) : Int) := by omega
              refine ⟨_, _, ?_, sle ?_ (Nat.le_refl _), (i + 1), (L + 1), (L + 1), (v + 1), (c + 1), (upF (kgF kf c (at' l (i : Int)).k) L (upd1 h L c) L), (kgF kf c (at' l (i : Int)).k), (insR m ⟨(at' l (i : Int)).k, c⟩), _, _, rfl, rfl, by omega, (fun k_ hk_ => by repeat (first | exact hf0 k_ hk_ | refine (hfz6 _ (by first | assumption | omega)).trans ?_ | refine uN (by first | assumption | omega) ?_ | fail)), by first | ((repeat (first | exact uE | assumption | refine uN (by omega) ?_ | refine (hfz6 _ (by first | assumption | omega)).trans ?_ | fail)); done) | exact tl_eq (by repeat (first | exact uE | assumption | refine uN (by omega) ?_ | refine (hfz6 _ (by first | assumption | omega)).trans ?_ | fail)) (by first | rfl | (simp [bytesV, beB_len]; done) | (simp [bytesV, beB_len]; omega) | omega) | (rw [← hq0_]; (repeat (first | exact uE | assumption | refine uN (by omega) ?_ | refine (hfz6 _ (by first | assumption | omega)).trans ?_ | fail)); done) | (rw [← hq1_]; (repeat (first | exact uE | assumption | refine uN (by omega) ?_ | refine (hfz6 _ (by first | assumption | omega)).trans ?_ | fail)); done) | (rw [← hq0_, ← hq1_]; (repeat (first | exact uE | assumption | refine uN (by omega) ?_ | refine (hfz6 _ (by first | assumption | omega)).trans ?_ | fail)); done), by first | ((repeat (first | exact uE | assumption | refine uN (by omega) ?_ | refine (hfz6 _ (by first | assumption | omega)).trans ?_ | fail)); done) | exact tl_eq (by repeat (first | exact uE | assumption | refine uN (by omega) ?_ | refine (hfz6 _ (by first | assumption | omega)).trans ?_ | fail)) (by first | rfl | (simp [bytesV, beB_len]; done) | (simp [bytesV, beB_len]; omega) | omega) | (rw [← hq0_]; (repeat (first | exact uE | assumption | refine uN (by omega) ?_ | refine (hfz6 _ (by first | assumption | omega)).trans ?_ | fail)); done) | (rw [← hq1_]; (repeat (first | exact uE | assumption | refine uN (by omega) ?_ | refine (hfz6 _ (by first | assumption | omega)).trans ?_ | fail)); done) | (rw [← hq0_, ← hq1_]; (repeat (first | exact uE | assumption | refine uN (by omega) ?_ | refine (hfz6 _ (by first | assumption | omega)).trans ?_ | fail)); done), by first | ((repeat (first | exact uE | assumption | refine uN (by omega) ?_ | refine (hfz6 _ (by first | assumption | omega)).trans ?_ | fail)); done) | exact tl_eq (by repeat (first | exact uE | assumption | refine uN (by omega) ?_ | refine (hfz6 _ (by first | assumption | omega)).trans ?_ | fail)) (by first | rfl | (simp [bytesV, beB_len]; done) | (simp [bytesV, beB_len]; omega) | omega) | (rw [← hq0_]; (repeat (first | exact uE | assumption | refine uN (by omega) ?_ | refine (hfz6 _ (by first | assumption | omega)).trans ?_ | fail)); done) | (rw [← hq1_]; (repeat (first | exact uE | assumption | refine uN (by omega) ?_ | refine (hfz6 _ (by first | assumption | omega)).trans ?_ | fail)); done) | (rw [← hq0_, ← hq1_]; (repeat (first | exact uE | assumption | refine uN (by omega) ?_ | refine (hfz6 _ (by first | assumption | omega)).trans ?_ | fail)); done), ⟨by omega, by omega, by omega⟩, hst_1, (fun a_ ha_ => by repeat (first | exact hfam6 a_ ha_ | refine uN (by omega) ?_ | refine (hfz6 _ (by first | assumption | omega)).trans ?_ | fail)), (fun a_ h1_ h2_ => by repeat (first | exact hF0_3 a_ (by omega) h2_ | refine uN (by omega) ?_ | refine (hfz6 _ (by first | assumption | omega)).trans ?_ | fail))⟩
              · omega
              · (repeat' (first | exact trivial | refine ⟨⟨_, rfl, ?_⟩, ?_⟩ | fail)); all_goals (repeat' (first | exact VLe.refl _ | exact VLe.own_sl _ _ _ | exact VLe.fl_sl _ _ | exact VLe.nil_sl _ | exact VLe.nil_fl _ | exact VLes.refl _ | exact .nil | refine VLe.tup ?_ | refine VLe.agg ?_ | refine .cons ?_ ?_ | (rw [Int.natCast_add]; exact VLe.refl _) | exact vle_int (by omega) | exact vle_bool (by first | rfl | assumption | (simp_all; done) | fail) | (rw [← hq0_]; exact VLe.refl _) | (rw [hq0_]; exact VLe.refl _) | (rw [← hq1_]; exact VLe.refl _) | (rw [hq1_]; exact VLe.refl _) | fail))
          · skip
            refine rl0 (gn rfl) rfl rfl (step_mv rfl rfl) trivial ?_
            refine rl0 (gy rfl rfl rfl rfl rfl rfl) rfl rfl (step_fieldAddr (off := 0) rfl (ev_mk rfl) Try.underlying30 rfl F.sz3 rfl) trivial ?_
            refine' rl0 (gy rfl rfl rfl rfl rfl rfl) rfl rfl (step_load_one rfl (ev_mk rfl) F.one3 ?hv) ⟨?hb, trivial⟩ ?_
            case hb => repeat (first | exact uE | refine uN (by omega) ?_ | assumption | exact hd _ (by omega) | exact hd0 _ (by omega) | fail)
            case hv => rfl
            refine rl_eql (gy rfl rfl rfl rfl rfl rfl) rfl rfl rfl rfl rfl (fun h5 => ?_) (fun h5 => ?_)
            · skip
              refine rl0 (gn rfl) rfl rfl (step_pick rfl (ev_mk rfl) (ev_mk rfl)) trivial ?_
              refine rl0 (gn rfl) rfl rfl (step_as rfl rfl) trivial ?_
              refine runsL_nil ?_
              refine runs_cond true (ev_mk rfl) (fun _ => ?_) (fun h_ => nomatch h_)
              refine runs_seq ?_
              refine runs_region ?_
              refine rl0 (gn rfl) rfl rfl (step_mv rfl rfl) trivial ?_
              refine rl0 (gn rfl) rfl rfl (step_fieldAddr (off := 1) rfl (ev_mk rfl) Try.underlying30 rfl F.sz3 rfl) trivial ?_
              refine' rl0 (gn rfl) rfl rfl (step_load_one rfl (ev_mk rfl) F.one3 ?hv) ⟨?hb, trivial⟩ ?_
              case hb => repeat (first | exact uE | refine uN (by omega) ?_ | assumption | exact hd _ (by omega) | exact hd0 _ (by omega) | fail)
              case hv => rfl
              refine rl0 (gn rfl) rfl rfl (step_mv rfl rfl) trivial ?_
              refine rl0 (gn rfl) rfl rfl (step_len (m := c) rfl rfl (ev_mk rfl) (.inl ⟨⟨_, Try.underlying28⟩, .inl ⟨_, _, .inr (.inr ⟨_, rfl⟩), allR_len _ _⟩⟩)) trivial ?_
              refine rl0 (gn rfl) rfl rfl (step_build (ss := [1, 1]) (zs := [.int .i64 0, .int .i64 0]) rfl Try.underlying33 (by kernel_rfl) F.zero33 rfl rfl rfl) trivial ?_
              refine rl0 (gn rfl) rfl rfl (step_callc rfl Try.func9 rfl rfl rfl (insert_c m ⟨(at' l (i : Int)).k, c⟩ (by omega)) (by repeat (first | exact .nil | refine .cons ?_ ?_ | exact VLe.refl _ | exact vle_int (by omega) | exact vle_int (kgF_c _ _ _) | exact vle_int (kgF_c _ _ _).symm | exact VLe.own_sl _ _ _ | exact VLe.fl_sl _ _ | exact VLe.nil_sl _ | exact VLe.nil_fl _ | refine VLe.agg ?_))) trivial ?_
              refine rl0 (gn rfl) rfl rfl (step_as rfl rfl) trivial ?_
              refine runsL_nil ?_
              have hdd_ : b0 (n + 10 + c) = .dead := hF0_3 c (by omega) (by omega)
              refine runs_region ?_
              refine rl0 (gn rfl) rfl rfl (step_mv rfl rfl) trivial ?_
              refine rl0 (gn rfl) rfl rfl (step_mv rfl rfl) trivial ?_
              refine rl0 (gn rfl) rfl rfl (step_fieldAddr (off := 1) rfl (ev_mk rfl) Try.underlying30 rfl F.sz3 rfl) trivial ?_
              refine' rl0 (gn rfl) rfl rfl (step_load_one rfl (ev_mk rfl) F.one3 ?hv) ⟨?hb, trivial⟩ ?_
              case hb => repeat (first | exact uE | refine uN (by omega) ?_ | assumption | exact hd _ (by omega) | exact hd0 _ (by omega) | fail)
              case hv => rfl
              refine rl_fam (gn rfl) rfl rfl (step_callc rfl Try.func10 rfl rfl rfl (push_c (kgF kf c (at' l (i : Int)).k) h (n + 10) (n + 0) (n + 1) v L M c hF0_1.le (by omega) (by omega) hF0_1.inj (fun j_ h_ => hF0_1.lt j_ (by have := hF0_1.le; omega)) (by omega) (by omega) (by omega)) (by repeat (first | exact .nil | refine .cons ?_ ?_ | exact VLe.refl _ | exact vle_int (by omega) | exact vle_int (kgF_c _ _ _) | exact vle_int (kgF_c _ _ _).symm | exact VLe.own_sl _ _ _ | exact VLe.fl_sl _ _ | exact VLe.nil_sl _ | exact VLe.nil_fl _ | refine VLe.agg ?_))) ⟨by repeat (first | exact uE | refine uN (by omega) ?_ | assumption | exact hd _ (by omega) | exact hd0 _ (by omega) | fail), by repeat (first | exact uE | refine uN (by omega) ?_ | assumption | exact hd _ (by omega) | exact hd0 _ (by omega) | fail), by repeat (first | exact uE | refine uN (by omega) ?_ | assumption | exact hd _ (by omega) | exact hd0 _ (by omega) | fail), fam_ok (fam_kg (fun a_ ha_ => by repeat (first | exact hF0_2 a_ ha_ | refine uN (by omega) ?_ | fail)))⟩ (by repeat (first | exact trivial | refine ⟨by omega, ?_⟩)) (by omega) (fun bz7 hfam7 hfz7 => ?_)
              simp only [upds] at hfz7
              have hst_1 : Hst (kgF kf c (at' l (i : Int)).k) (upF (kgF kf c (at' l (i : Int)).k) L (upd1 h L c) L) (L + 1) (L + 1) (c + 1) (insR m ⟨(at' l (i : Int)).k, c⟩) := hF0_1.put
              refine rl0 (gn rfl) rfl rfl (step_lit rfl Try.underlying28 F.sz34 F.zero34 (by first | rfl | simp) (by first | rfl | simp | decide) (by decide) rfl rfl (by first | (simp [V.cs, V.stor, oneV]; done) | (simp [V.cs, V.stor, oneV])) rfl) trivial ?_
              refine' rl1 (gn rfl) rfl rfl (step_append_own rfl rfl rfl Try.underlying28 ⟨_, Try.underlying28, fun k_ => by intro h_; cases h_⟩ F.el34 (ev_mk rfl) (ev_mk rfl) (gives_sl (.inr (.inl rfl))) ?hg) ⟨?hb, trivial⟩ (by omega) ?_
              case hb => repeat (first | exact uE | refine uN (by omega) ?_ | assumption | exact hd _ (by omega) | exact hd0 _ (by omega) | refine (hfz7 _ (by first | assumption | omega)).trans ?_ | fail)
              case hg => (rw [allR_len]; show c + 1 ≤ 1073741824; omega)
              refine rl0 (gn rfl) rfl rfl (step_as rfl rfl) trivial ?_
              refine runsL_nil ?_
              refine runs_seq ?_
              have hst_ : Hst (kgF kf c (at' l (i : Int)).k) (upF (kgF kf c (at' l (i : Int)).k) L (upd1 h L c) L) (L + 1) (L + 1) (c + 1) (insR m ⟨(at' l (i : Int)).k, c⟩) := hst_1
              have hLm_ := hst_.rel.len
              have hrn_ := rmN_le h L (nIx (at' l (i : Int)).m c)
              refine runs_region ?_
              refine rl0 (gn rfl) rfl rfl (step_mv rfl rfl) trivial ?_
              refine rl0 (gn rfl) rfl rfl (step_callc rfl Try.func15 rfl rfl rfl (top_c (kgF kf c (at' l (i : Int)).k) (upF (kgF kf c (at' l (i : Int)).k) L (upd1 h L c) L) (n + 10) (n + 0) (n + 1) (v + 1) (L + 1) (L + 1) (c + 1) hst_.le hst_.lt) (by repeat (first | exact .nil | refine .cons ?_ ?_ | exact VLe.refl _ | exact vle_int (by omega) | exact vle_int (kgF_c _ _ _) | exact vle_int (kgF_c _ _ _).symm | exact VLe.own_sl _ _ _ | exact VLe.fl_sl _ _ | exact VLe.nil_sl _ | exact VLe.nil_fl _ | refine VLe.agg ?_))) ⟨by repeat (first | exact uE | refine uN (by omega) ?_ | assumption | exact hd _ (by omega) | exact hd0 _ (by omega) | refine (hfz7 _ (by first | assumption | omega)).trans ?_ | fail), by repeat (first | exact uE | refine uN (by omega) ?_ | assumption | exact hd _ (by omega) | exact hd0 _ (by omega) | refine (hfz7 _ (by first | assumption | omega)).trans ?_ | fail), fam_ok (fun a_ ha_ => by repeat (first | exact hfam7 a_ ha_ | refine uN (by omega) ?_ | refine (hfz7 _ (by first | assumption | omega)).trans ?_ | fail))⟩ ?_
              refine rl0 (gn rfl) rfl rfl (step_mv rfl rfl) trivial ?_
              refine rl0 (gn rfl) rfl rfl (step_extract rfl (ev_mk rfl) rfl) trivial ?_
              refine rl0 (gn rfl) rfl rfl (step_extract rfl (ev_mk rfl) rfl) trivial ?_
              refine rl0 (gn rfl) rfl rfl (step_as rfl rfl) trivial ?_
              refine rl0 (gn rfl) rfl rfl (step_as rfl rfl) trivial ?_
              refine runsL_nil ?_
              refine runs_seq ?_
              refine runs_region ?_
              refine rl0 (gn rfl) rfl rfl (step_mv rfl rfl) trivial ?_
              refine rl0 (gn rfl) rfl rfl (step_callc rfl Try.func16 rfl rfl rfl (len_c (n + 0) (n + 1) (v + 1) (L + 1) (c + 1)) (by repeat (first | exact .nil | refine .cons ?_ ?_ | exact VLe.refl _ | exact vle_int (by omega) | exact vle_int (kgF_c _ _ _) | exact vle_int (kgF_c _ _ _).symm | exact VLe.own_sl _ _ _ | exact VLe.fl_sl _ _ | exact VLe.nil_sl _ | exact VLe.nil_fl _ | refine VLe.agg ?_))) ⟨by repeat (first | exact uE | refine uN (by omega) ?_ | assumption | exact hd _ (by omega) | exact hd0 _ (by omega) | refine (hfz7 _ (by first | assumption | omega)).trans ?_ | fail), trivial⟩ ?_
              refine rl0 (gn rfl) rfl rfl (step_mv rfl rfl) trivial ?_
              refine rl0 (gn rfl) rfl rfl (step_len (m := (insR m ⟨(at' l (i : Int)).k, c⟩).length) rfl rfl (ev_mk rfl) (.inl ⟨⟨_, Try.underlying27⟩, .inl ⟨_, _, .inl rfl, List.length_map _⟩⟩)) trivial ?_
              refine rl_neq (gn rfl) rfl rfl rfl rfl rfl (fun h6 => ?_) (fun h6 => ?_)
              · exact False.elim (by omega)
              refine rl0 (gn rfl) rfl rfl (step_mv rfl rfl) trivial ?_
              refine rl0 (gy rfl rfl rfl rfl rfl rfl) rfl rfl (step_mv rfl rfl) trivial ?_
              refine rl0 (gy rfl rfl rfl rfl rfl rfl) rfl rfl (step_callc rfl Try.func17 rfl rfl rfl (sound_c (kgF kf c (at' l (i : Int)).k) (upF (kgF kf c (at' l (i : Int)).k) L (upd1 h L c) L) (n + 10) (n + 0) (n + 1) (v + 1) (L + 1) (L + 1) (c + 1) hst_.le (by omega) hst_.inj hst_.lt hst_.rel.hp) (by repeat (first | exact .nil | refine .cons ?_ ?_ | exact VLe.refl _ | exact vle_int (by omega) | exact vle_int (kgF_c _ _ _) | exact vle_int (kgF_c _ _ _).symm | exact VLe.own_sl _ _ _ | exact VLe.fl_sl _ _ | exact VLe.nil_sl _ | exact VLe.nil_fl _ | refine VLe.agg ?_))) ⟨by repeat (first | exact uE | refine uN (by omega) ?_ | assumption | exact hd _ (by omega) | exact hd0 _ (by omega) | refine (hfz7 _ (by first | assumption | omega)).trans ?_ | fail), by repeat (first | exact uE | refine uN (by omega) ?_ | assumption | exact hd _ (by omega) | exact hd0 _ (by omega) | refine (hfz7 _ (by first | assumption | omega)).trans ?_ | fail), fam_ok (fun a_ ha_ => by repeat (first | exact hfam7 a_ ha_ | refine uN (by omega) ?_ | refine (hfz7 _ (by first | assumption | omega)).trans ?_ | fail))⟩ ?_
              refine rl0 (gy rfl rfl rfl rfl rfl rfl) rfl rfl (step_unOp (c := .bool false) rfl (ev_mk rfl) (fun _ => rfl)) trivial ?_
              refine rl0 (gn rfl) rfl rfl (step_pick rfl (ev_mk rfl) (ev_mk rfl)) trivial ?_
              refine rl0 (gn rfl) rfl rfl (step_mv rfl rfl) trivial ?_
              refine rl0 (gy rfl rfl rfl rfl rfl rfl) rfl rfl (step_mv rfl rfl) trivial ?_
              refine rl0 (gy rfl rfl rfl rfl rfl rfl) rfl rfl (step_mv rfl rfl) trivial ?_
              refine rl0 (gy rfl rfl rfl rfl rfl rfl) rfl rfl (step_len (m := (insR m ⟨(at' l (i : Int)).k, c⟩).length) rfl rfl (ev_mk rfl) (.inl ⟨⟨_, Try.underlying27⟩, .inl ⟨_, _, .inl rfl, List.length_map _⟩⟩)) trivial ?_
              refine rl_gtr (gy rfl rfl rfl rfl rfl rfl) rfl rfl rfl rfl rfl (fun h7 => ?_) (fun h7 => ?_)
              · skip
                refine rl0 (gy rfl rfl rfl rfl rfl rfl) rfl rfl (step_neqb rfl (ev_mk rfl) (ev_mk rfl) Try.underlying4) trivial ?_
                refine rl_know (d := 170) (c := false) rfl (by rw [decide_eq_true (show 0 < L + 1 by omega)]; rfl) ?_
                refine rl0 (gn rfl) rfl rfl (step_pick rfl (ev_mk rfl) (ev_mk rfl)) trivial ?_
                refine rl0 (gn rfl) rfl rfl (step_mv rfl rfl) trivial ?_
                refine rl0 (gy rfl rfl rfl rfl rfl rfl) rfl rfl (step_mv rfl rfl) trivial ?_
                refine rl_know (d := 173) (c := true) rfl (decide_eq_true (by omega)) ?_
                refine rl0 (gy rfl rfl rfl rfl rfl rfl) rfl rfl (step_mv rfl rfl) trivial ?_
                refine rl0 (gy rfl rfl rfl rfl rfl rfl) rfl rfl (step_mv rfl rfl) trivial ?_
                refine rl0 (gy rfl rfl rfl rfl rfl rfl) rfl rfl (step_mv rfl rfl) trivial ?_
                refine' rl0 (gy rfl rfl rfl rfl rfl rfl) rfl rfl (step_index rfl (ev_mk rfl) (.inl rfl) (ev_mk rfl) Try.underlying27 F.sz33 (by omega) ?hr) trivial ?_
                case hr => exact map_at _ _ _ (by omega) (by omega)
                refine rl0 (gy rfl rfl rfl rfl rfl rfl) rfl rfl (step_fieldAddr_ro (off := 0) rfl (ev_mk rfl) Try.underlying33 rfl F.sz3 rfl rfl) trivial ?_
                refine rl0 (gy rfl rfl rfl rfl rfl rfl) rfl rfl (step_load_ro rfl (ev_mk rfl) F.one3 rfl) trivial ?_
                refine rl_neq (gy rfl rfl rfl rfl rfl rfl) rfl rfl rfl rfl rfl (fun h8 => ?_) (fun h8 => ?_)
                · exact False.elim (by exact absurd (hst_.top (by omega)).1 h8)
                refine rl0 (gy rfl rfl rfl rfl rfl rfl) rfl rfl (step_pick rfl (ev_mk rfl) (ev_mk rfl)) trivial ?_
                refine rl0 (gn rfl) rfl rfl (step_pick rfl (ev_mk rfl) (ev_mk rfl)) trivial ?_
                refine runsL_nil ?_
                refine runs_cond false (ev_mk rfl) (fun h_ => nomatch h_) (fun _ => ?_)
                refine runs_skip ?_
                refine runs_region ?_
                refine rl0 (gn rfl) rfl rfl (step_mv rfl rfl) trivial ?_
                refine rl0 (gn rfl) rfl rfl (step_add rfl (ev_mk rfl) (ev_mk rfl) (w64 (by omega))) trivial ?_
                refine rl0 (gn rfl) rfl rfl (step_as rfl rfl) trivial ?_
                refine runsL_nil ?_
                have hq0_ : (allR (n + 10) c) ++ [[V.ref ((n + 10) + c) 0]] = (allR (n + 10) (c + 1)) := by exact allR_s _ _
                have hq1_ : ((i : Int) + 1) = ((i + 1) : Int) := by omega
                refine ⟨_, _, ?_, sle ?_ (Nat.le_refl _), (i + 1), (L + 1), (L + 1), (v + 1), (c + 1), (upF (kgF kf c (at' l (i : Int)).k) L (upd1 h L c) L), (kgF kf c (at' l (i : Int)).k), (insR m ⟨(at' l (i : Int)).k, c⟩), _, _, rfl, rfl, by omega, (fun k_ hk_ => by repeat (first | exact hf0 k_ hk_ | refine (hfz7 _ (by first | assumption | omega)).trans ?_ | refine uN (by first | assumption | omega) ?_ | fail)), by first | ((repeat (first | exact uE | assumption | refine uN (by omega) ?_ | refine (hfz7 _ (by first | assumption | omega)).trans ?_ | fail)); done) | exact tl_eq (by repeat (first | exact uE | assumption | refine uN (by omega) ?_ | refine (hfz7 _ (by first | assumption | omega)).trans ?_ | fail)) (by first | rfl | (simp [bytesV, beB_len]; done) | (simp [bytesV, beB_len]; omega) | omega) | (rw [← hq0_]; (repeat (first | exact uE | assumption | refine uN (by omega) ?_ | refine (hfz7 _ (by first | assumption | omega)).trans ?_ | fail)); done) | (rw [← hq1_]; (repeat (first | exact uE | assumption | refine uN (by omega) ?_ | refine (hfz7 _ (by first | assumption | omega)).trans ?_ | fail)); done) | (rw [← hq0_, ← hq1_]; (repeat (first | exact uE | assumption | refine uN (by omega) ?_ | refine (hfz7 _ (by first | assumption | omega)).trans ?_ | fail)); done), by first | ((repeat (first | exact uE | assumption | refine uN (by omega) ?_ | refine (hfz7 _ (by first | assumption | omega)).trans ?_ | fail)); done) | exact tl_eq (by repeat (first | exact uE | assumption | refine uN (by omega) ?_ | refine (hfz7 _ (by first | assumption | omega)).trans ?_ | fail)) (by first | rfl | (simp [bytesV, beB_len]; done) | (simp [bytesV, beB_len]; omega) | omega) | (rw [← hq0_]; (repeat (first | exact uE | assumption | refine uN (by omega) ?_ | refine (hfz7 _ (by first | assumption | omega)).trans ?_ | fail)); done) | (rw [← hq1_]; (repeat (first | exact uE | assumption | refine uN (by omega) ?_ | refine (hfz7 _ (by first | assumption | omega)).trans ?_ | fail)); done) | (rw [← hq0_, ← hq1_]; (repeat (first | exact uE | assumption | refine uN (by omega) ?_ | refine (hfz7 _ (by first | assumption | omega)).trans ?_ | fail)); done), by first | ((repeat (first | exact uE | assumption | refine uN (by omega) ?_ | refine (hfz7 _ (by first | assumption | omega)).trans ?_ | fail)); done) | exact tl_eq (by repeat (first | exact uE | assumption | refine uN (by omega) ?_ | refine (hfz7 _ (by first | assumption | omega)).trans ?_ | fail)) (by first | rfl | (simp [bytesV, beB_len]; done) | (simp [bytesV, beB_len]; omega) | omega) | (rw [← hq0_]; (repeat (first | exact uE | assumption | refine uN (by omega) ?_ | refine (hfz7 _ (by first | assumption | omega)).trans ?_ | fail)); done) | (rw [← hq1_]; (repeat (first | exact uE | assumption | refine uN (by omega) ?_ | refine (hfz7 _ (by first | assumption | omega)).trans ?_ | fail)); done) | (rw [← hq0_, ← hq1_]; (repeat (first | exact uE | assumption | refine uN (by omega) ?_ | refine (hfz7 _ (by first | assumption | omega)).trans ?_ | fail)); done), ⟨by omega, by omega, by omega⟩, hst_1, (fun a_ ha_ => by repeat (first | exact hfam7 a_ ha_ | refine uN (by omega) ?_ | refine (hfz7 _ (by first | assumption | omega)).trans ?_ | fail)), (fun a_ h1_ h2_ => by repeat (first | exact hF0_3 a_ (by omega) h2_ | refine uN (by omega) ?_ | refine (hfz7 _ (by first | assumption | omega)).trans ?_ | fail))⟩
                · omega
                · (repeat' (first | exact trivial | refine ⟨⟨_, rfl, ?_⟩, ?_⟩ | fail)); all_goals (repeat' (first | exact VLe.refl _ | exact VLe.own_sl _ _ _ | exact VLe.fl_sl _ _ | exact VLe.nil_sl _ | exact VLe.nil_fl _ | exact VLes.refl _ | exact .nil | refine VLe.tup ?_ | refine VLe.agg ?_ | refine .cons ?_ ?_ | (rw [Int.natCast_add]; exact VLe.refl _) | exact vle_int (by omega) | exact vle_bool (by first | rfl | assumption | (simp_all; done) | fail) | (rw [← hq0_]; exact VLe.refl _) | (rw [hq0_]; exact VLe.refl _) | (rw [← hq1_]; exact VLe.refl _) | (rw [hq1_]; exact VLe.refl _) | fail))
              · skip
                refine rl0 (gy rfl rfl rfl rfl rfl rfl) rfl rfl (step_neqb rfl (ev_mk rfl) (ev_mk rfl) Try.underlying4) trivial ?_
                refine rl_know (d := 170) (c := false) rfl (by rw [decide_eq_false (show ¬ 0 < L + 1 by omega)]; rfl) ?_
                refine rl0 (gn rfl) rfl rfl (step_pick rfl (ev_mk rfl) (ev_mk rfl)) trivial ?_
                refine rl0 (gn rfl) rfl rfl (step_mv rfl rfl) trivial ?_
                refine rl0 (gy rfl rfl rfl rfl rfl rfl) rfl rfl (step_mv rfl rfl) trivial ?_
                refine rl_know (d := 173) (c := false) rfl (decide_eq_false (by omega)) ?_
                refine rl0 (gy rfl rfl rfl rfl rfl rfl) rfl rfl (step_mv rfl rfl) trivial ?_
                refine rlk rfl rfl rfl rfl rfl (ngb rfl rfl) rfl rfl ?_
                refine rlk rfl rfl rfl rfl rfl (ngb rfl rfl) rfl rfl ?_
                refine rlk rfl rfl rfl rfl rfl (ngb rfl rfl) rfl rfl ?_
                refine rlk rfl rfl rfl rfl rfl (ngb rfl rfl) rfl rfl ?_
                refine rlk rfl rfl rfl rfl rfl (ngb rfl rfl) rfl rfl ?_
                refine rlk rfl rfl rfl rfl rfl (ngb rfl rfl) rfl rfl ?_
                refine rl0 (gy rfl rfl rfl rfl rfl rfl) rfl rfl (step_pick rfl (ev_mk rfl) (ev_mk rfl)) trivial ?_
                refine rl0 (gn rfl) rfl rfl (step_pick rfl (ev_mk rfl) (ev_mk rfl)) trivial ?_
                refine runsL_nil ?_
                refine runs_cond false (ev_mk rfl) (fun h_ => nomatch h_) (fun _ => ?_)
                refine runs_skip ?_
                refine runs_region ?_
                refine rl0 (gn rfl) rfl rfl (step_mv rfl rfl) trivial ?_
                refine rl0 (gn rfl) rfl rfl (step_add rfl (ev_mk rfl) (ev_mk rfl) (w64 (by omega))) trivial ?_
                refine rl0 (gn rfl) rfl rfl (step_as rfl rfl) trivial ?_
                refine runsL_nil ?_
                have hq0_ : (allR (n + 10) c) ++ [[V.ref ((n + 10) + c) 0]] = (allR (n + 10) (c + 1)) := by exact allR_s _ _
                have hq1_ : ((i : Int) + 1) = ((i + 1) : Int) := by omega
                refine ⟨_, _, ?_, sle ?_ (Nat.le_refl _), (i + 1), (L + 1), (L + 1), (v + 1), (c + 1), (upF (kgF kf c (at' l (i : Int)).k) L (upd1 h L c) L), (kgF kf c (at' l (i : Int)).k), (insR m ⟨(at' l (i : Int)).k, c⟩), _, _, rfl, rfl, by omega, (fun k_ hk_ => by repeat (first | exact hf0 k_ hk_ | refine (hfz7 _ (by first | assumption | omega)).trans ?_ | refine uN (by first | assumption | omega) ?_ | fail)), by first | ((repeat (first | exact uE | assumption | refine uN (by omega) ?_ | refine (hfz7 _ (by first | assumption | omega)).trans ?_ | fail)); done) | exact tl_eq (by repeat (first | exact uE | assumption | refine uN (by omega) ?_ | refine (hfz7 _ (by first | assumption | omega)).trans ?_ | fail)) (by first | rfl | (simp [bytesV, beB_len]; done) | (simp [bytesV, beB_len]; omega) | omega) | (rw [← hq0_]; (repeat (first | exact uE | assumption | refine uN (by omega) ?_ | refine (hfz7 _ (by first | assumption | omega)).trans ?_ | fail)); done) | (rw [← hq1_]; (repeat (first | exact uE | assumption | refine uN (by omega) ?_ | refine (hfz7 _ (by first | assumption | omega)).trans ?_ | fail)); done) | (rw [← hq0_, ← hq1_]; (repeat (first | exact uE | assumption | refine uN (by omega) ?_ | refine (hfz7 _ (by first | assumption | omega)).trans ?_ | fail)); done), by first | ((repeat (first | exact uE | assumption | refine uN (by omega) ?_ | refine (hfz7 _ (by first | assumption | omega)).trans ?_ | fail)); done) | exact tl_eq (by repeat (first | exact uE | assumption | refine uN (by omega) ?_ | refine (hfz7 _ (by first | assumption | omega)).trans ?_ | fail)) (by first | rfl | (simp [bytesV, beB_len]; done) | (simp [bytesV, beB_len]; omega) | omega) | (rw [← hq0_]; (repeat (first | exact uE | assumption | refine uN (by omega) ?_ | refine (hfz7 _ (by first | assumption | omega)).trans ?_ | fail)); done) | (rw [← hq1_]; (repeat (first | exact uE | assumption | refine uN (by omega) ?_ | refine (hfz7 _ (by first | assumption | omega)).trans ?_ | fail)); done) | (rw [← hq0_, ← hq1_]; (repeat (first | exact uE | assumption | refine uN (by omega) ?_ | refine (hfz7 _ (by first | assumption | omega)).trans ?_ | fail)); done), by first | ((repeat (first | exact uE | assumption | refine uN (by omega) ?_ | refine (hfz7 _ (by first | assumption | omega)).trans ?_ | fail)); done) | exact tl_eq (by repeat (first | exact uE | assumption | refine uN (by omega) ?_ | refine (hfz7 _ (by first | assumption | omega)).trans ?_ | fail)) (by first | rfl | (simp [bytesV, beB_len]; done) | (simp [bytesV, beB_len]; omega) | omega) | (rw [← hq0_]; (repeat (first | exact uE | assumption | refine uN (by omega) ?_ | refine (hfz7 _ (by first | assumption | omega)).trans ?_ | fail)); done) | (rw [← hq1_]; (repeat (first | exact uE | assumption | refine uN (by omega) ?_ | refine (hfz7 _ (by first | assumption | omega)).trans ?_ | fail)); done) | (rw [← hq0_, ← hq1_]; (repeat (first | exact uE | assumption | refine uN (by omega) ?_ | refine (hfz7 _ (by first | assumption | omega)).trans ?_ | fail)); done), ⟨by omega, by omega, by omega⟩, hst_1, (fun a_ ha_ => by repeat (first | exact hfam7 a_ ha_ | refine uN (by omega) ?_ | refine (hfz7 _ (by first | assumption | omega)).trans ?_ | fail)), (fun a_ h1_ h2_ => by repeat (first | exact hF0_3 a_ (by omega) h2_ | refine uN (by omega) ?_ | refine (hfz7 _ (by first | assumption | omega)).trans ?_ | fail))⟩
                · omega
                · (repeat' (first | exact trivial | refine ⟨⟨_, rfl, ?_⟩, ?_⟩ | fail)); all_goals (repeat' (first | exact VLe.refl _ | exact VLe.own_sl _ _ _ | exact VLe.fl_sl _ _ | exact VLe.nil_sl _ | exact VLe.nil_fl _ | exact VLes.refl _ | exact .nil | refine VLe.tup ?_ | refine VLe.agg ?_ | refine .cons ?_ ?_ | (rw [Int.natCast_add]; exact VLe.refl _) | exact vle_int (by omega) | exact vle_bool (by first | rfl | assumption | (simp_all; done) | fail) | (rw [← hq0_]; exact VLe.refl _) | (rw [hq0_]; exact VLe.refl _) | (rw [← hq1_]; exact VLe.refl _) | (rw [hq1_]; exact VLe.refl _) | fail))
            · skip
              refine rl0 (gn rfl) rfl rfl (step_pick rfl (ev_mk rfl) (ev_mk rfl)) trivial ?_
              refine rl0 (gn rfl) rfl rfl (step_as rfl rfl) trivial ?_
              refine runsL_nil ?_
              refine runs_cond false (ev_mk rfl) (fun h_ => nomatch h_) (fun _ => ?_)
              refine runs_seq ?_
              refine runs_region ?_
              refine rl0 (gn rfl) rfl rfl (step_fieldAddr (off := 0) rfl (ev_mk rfl) Try.underlying30 rfl F.sz3 rfl) trivial ?_
              refine' rl0 (gn rfl) rfl rfl (step_load_one rfl (ev_mk rfl) F.one3 ?hv) ⟨?hb, trivial⟩ ?_
              case hb => repeat (first | exact uE | refine uN (by omega) ?_ | assumption | exact hd _ (by omega) | exact hd0 _ (by omega) | fail)
              case hv => rfl
              refine rl_eql (gn rfl) rfl rfl rfl rfl rfl (fun h6 => ?_) (fun h6 => ?_)
              · skip
                refine rl0 (gn rfl) rfl rfl (step_as rfl rfl) trivial ?_
                refine runsL_nil ?_
                refine runs_cond true (ev_mk rfl) (fun _ => ?_) (fun h_ => nomatch h_)
                refine runs_seq ?_
                refine runs_region ?_
                refine rl0 (gn rfl) rfl rfl (step_mv rfl rfl) trivial ?_
                refine rl_fam (gn rfl) rfl rfl (step_callc rfl Try.func11 rfl rfl rfl (pop_c kf h (n + 10) (n + 0) (n + 1) v L M c hF0_1.le (by omega) hF0_1.inj hF0_1.lt (by omega) (by omega) (by omega)) (by repeat (first | exact .nil | refine .cons ?_ ?_ | exact VLe.refl _ | exact vle_int (by omega) | exact vle_int (kgF_c _ _ _) | exact vle_int (kgF_c _ _ _).symm | exact VLe.own_sl _ _ _ | exact VLe.fl_sl _ _ | exact VLe.nil_sl _ | exact VLe.nil_fl _ | refine VLe.agg ?_))) ⟨by repeat (first | exact uE | refine uN (by omega) ?_ | assumption | exact hd _ (by omega) | exact hd0 _ (by omega) | fail), by repeat (first | exact uE | refine uN (by omega) ?_ | assumption | exact hd _ (by omega) | exact hd0 _ (by omega) | fail), fam_ok (fun a_ ha_ => by repeat (first | exact hF0_2 a_ ha_ | refine uN (by omega) ?_ | fail))⟩ (by repeat (first | exact trivial | refine ⟨by omega, ?_⟩)) (by omega) (fun bz8 hfam8 hfz8 => ?_)
                simp only [upds] at hfz8
                refine rl0 (gn rfl) rfl rfl (step_mv rfl rfl) trivial ?_
                refine rl0 (gn rfl) rfl rfl (step_extract rfl (ev_mk rfl) rfl) trivial ?_
                refine rl0 (gn rfl) rfl rfl (step_extract rfl (ev_mk rfl) rfl) trivial ?_
                refine rl0 (gn rfl) rfl rfl (step_as rfl rfl) trivial ?_
                refine rl0 (gn rfl) rfl rfl (step_as rfl rfl) trivial ?_
                refine runsL_nil ?_
                refine runs_seq ?_
                refine runs_seq ?_
                refine runs_region ?_
                refine rl0 (gn rfl) rfl rfl (step_mv rfl rfl) trivial ?_
                refine rl0 (gn rfl) rfl rfl (step_mv rfl rfl) trivial ?_
                refine rl0 (gn rfl) rfl rfl (step_len (m := m.length) rfl rfl (ev_mk rfl) (.inl ⟨⟨_, Try.underlying27⟩, .inl ⟨_, _, .inl rfl, List.length_map _⟩⟩)) trivial ?_
                refine rl_gtr (gn rfl) rfl rfl rfl rfl rfl (fun h7 => ?_) (fun h7 => ?_)
                · skip
                  refine rl0 (gn rfl) rfl rfl (step_neqb rfl (ev_mk rfl) (ev_mk rfl) Try.underlying4) trivial ?_
                  refine rl_know (d := 84) (c := false) rfl (by rw [decide_eq_true (show 0 < L by omega)]; rfl) ?_
                  refine rl0 (gn rfl) rfl rfl (step_mv rfl rfl) trivial ?_
                  refine rl0 (gy rfl rfl rfl rfl rfl rfl) rfl rfl (step_mv rfl rfl) trivial ?_
                  refine rl_know (d := 86) (c := true) rfl (decide_eq_true (by omega)) ?_
                  refine rl0 (gy rfl rfl rfl rfl rfl rfl) rfl rfl (step_mv rfl rfl) trivial ?_
                  refine rl0 (gy rfl rfl rfl rfl rfl rfl) rfl rfl (step_mv rfl rfl) trivial ?_
                  refine rl0 (gy rfl rfl rfl rfl rfl rfl) rfl rfl (step_mv rfl rfl) trivial ?_
                  refine' rl0 (gy rfl rfl rfl rfl rfl rfl) rfl rfl (step_index rfl (ev_mk rfl) (.inl rfl) (ev_mk rfl) Try.underlying27 F.sz33 (by omega) ?hr) trivial ?_
                  case hr => exact map_at _ _ _ (by omega) (by omega)
                  refine rl0 (gy rfl rfl rfl rfl rfl rfl) rfl rfl (step_fieldAddr_ro (off := 0) rfl (ev_mk rfl) Try.underlying33 rfl F.sz3 rfl rfl) trivial ?_
                  refine rl0 (gy rfl rfl rfl rfl rfl rfl) rfl rfl (step_load_ro rfl (ev_mk rfl) F.one3 rfl) trivial ?_
                  refine rl_neq (gy rfl rfl rfl rfl rfl rfl) rfl rfl rfl rfl rfl (fun h8 => ?_) (fun h8 => ?_)
                  · exact False.elim (by exact absurd (hF0_1.top (by omega)).1 h8)
                  refine rl0 (gy rfl rfl rfl rfl rfl rfl) rfl rfl (step_pick rfl (ev_mk rfl) (ev_mk rfl)) trivial ?_
                  refine rl0 (gn rfl) rfl rfl (step_pick rfl (ev_mk rfl) (ev_mk rfl)) trivial ?_
                  refine runsL_nil ?_
                  refine runs_cond false (ev_mk rfl) (fun h_ => nomatch h_) (fun _ => ?_)
                  refine runs_skip ?_
                  refine runs_seq ?_
                  have hst_1 : Hst kf (popH kf h L) (L - 1) M c (m.drop 1) := (hF0_1.pop (by omega))
                  refine runs_region ?_
                  refine rl0 (gn rfl) rfl rfl (step_mv rfl rfl) trivial ?_
                  refine rl_know (d := 96) (c := true) rfl (decide_eq_true (by omega)) ?_
                  refine runsL_nil ?_
                  refine runs_cond true (ev_mk rfl) (fun _ => ?_) (fun h_ => nomatch h_)
                  refine runs_region ?_
                  refine rl0 (gn rfl) rfl rfl (step_mv rfl rfl) trivial ?_
                  refine rl0 (gn rfl) rfl rfl (step_slice (ys := ((m.drop 1).map itR)) (l := 1) (h := (m.map itR).length) rfl (ev_mk rfl) (.inl rfl) Try.underlying27 F.sz33 (bndLo_nat (a := 1) rfl (by first | omega | (split <;> omega) | (first | (simp; done) | (simp; omega) | omega))) bndHi_none (by first | omega | exact Nat.zero_le _ | (simp; omega) | (first | (simp; done) | (simp; omega) | omega)) (by first | omega | (simp; omega) | (first | (simp; done) | (simp; omega) | omega)) (by rw [List.take_length, List.map_drop])) trivial ?_
                  refine rl0 (gn rfl) rfl rfl (step_as rfl rfl) trivial ?_
                  refine runsL_nil ?_
                  refine runs_seq ?_
                  have hst_ : Hst kf (popH kf h L) (L - 1) M c (m.drop 1) := hst_1
                  have hLm_ := hst_.rel.len
                  have hrn_ := rmN_le h L (nIx (at' l (i : Int)).m c)
                  refine runs_region ?_
                  refine rl0 (gn rfl) rfl rfl (step_mv rfl rfl) trivial ?_
                  refine rl0 (gn rfl) rfl rfl (step_callc rfl Try.func15 rfl rfl rfl (top_c kf (popH kf h L) (n + 10) (n + 0) (n + 1) v (L - 1) M c hst_.le hst_.lt) (by repeat (first | exact .nil | refine .cons ?_ ?_ | exact VLe.refl _ | exact vle_int (by omega) | exact vle_int (kgF_c _ _ _) | exact vle_int (kgF_c _ _ _).symm | exact VLe.own_sl _ _ _ | exact VLe.fl_sl _ _ | exact VLe.nil_sl _ | exact VLe.nil_fl _ | refine VLe.agg ?_))) ⟨by repeat (first | exact uE | refine uN (by omega) ?_ | assumption | exact hd _ (by omega) | exact hd0 _ (by omega) | refine (hfz8 _ (by first | assumption | omega)).trans ?_ | fail), by repeat (first | exact uE | refine uN (by omega) ?_ | assumption | exact hd _ (by omega) | exact hd0 _ (by omega) | refine (hfz8 _ (by first | assumption | omega)).trans ?_ | fail), fam_ok (fun a_ ha_ => by repeat (first | exact hfam8 a_ ha_ | refine uN (by omega) ?_ | refine (hfz8 _ (by first | assumption | omega)).trans ?_ | fail))⟩ ?_
                  refine rl0 (gn rfl) rfl rfl (step_mv rfl rfl) trivial ?_
                  refine rl0 (gn rfl) rfl rfl (step_extract rfl (ev_mk rfl) rfl) trivial ?_
                  refine rl0 (gn rfl) rfl rfl (step_extract rfl (ev_mk rfl) rfl) trivial ?_
                  refine rl0 (gn rfl) rfl rfl (step_as rfl rfl) trivial ?_
                  refine rl0 (gn rfl) rfl rfl (step_as rfl rfl) trivial ?_
                  refine runsL_nil ?_
                  refine runs_seq ?_
                  refine runs_region ?_
                  refine rl0 (gn rfl) rfl rfl (step_mv rfl rfl) trivial ?_
                  refine rl0 (gn rfl) rfl rfl (step_callc rfl Try.func16 rfl rfl rfl (len_c (n + 0) (n + 1) v (L - 1) c) (by repeat (first | exact .nil | refine .cons ?_ ?_ | exact VLe.refl _ | exact vle_int (by omega) | exact vle_int (kgF_c _ _ _) | exact vle_int (kgF_c _ _ _).symm | exact VLe.own_sl _ _ _ | exact VLe.fl_sl _ _ | exact VLe.nil_sl _ | exact VLe.nil_fl _ | refine VLe.agg ?_))) ⟨by repeat (first | exact uE | refine uN (by omega) ?_ | assumption | exact hd _ (by omega) | exact hd0 _ (by omega) | refine (hfz8 _ (by first | assumption | omega)).trans ?_ | fail), trivial⟩ ?_
                  refine rl0 (gn rfl) rfl rfl (step_mv rfl rfl) trivial ?_
                  refine rl0 (gn rfl) rfl rfl (step_len (m := (m.drop 1).length) rfl rfl (ev_mk rfl) (.inl ⟨⟨_, Try.underlying27⟩, .inl ⟨_, _, .inl rfl, List.length_map _⟩⟩)) trivial ?_
                  refine rl_neq (gn rfl) rfl rfl rfl rfl rfl (fun h9 => ?_) (fun h9 => ?_)
                  · exact False.elim (by omega)
                  refine rl0 (gn rfl) rfl rfl (step_mv rfl rfl) trivial ?_
                  refine rl0 (gy rfl rfl rfl rfl rfl rfl) rfl rfl (step_mv rfl rfl) trivial ?_
                  refine rl0 (gy rfl rfl rfl rfl rfl rfl) rfl rfl (step_callc rfl Try.func17 rfl rfl rfl (sound_c kf (popH kf h L) (n + 10) (n + 0) (n + 1) v (L - 1) M c hst_.le (by omega) hst_.inj hst_.lt hst_.rel.hp) (by repeat (first | exact .nil | refine .cons ?_ ?_ | exact VLe.refl _ | exact vle_int (by omega) | exact vle_int (kgF_c _ _ _) | exact vle_int (kgF_c _ _ _).symm | exact VLe.own_sl _ _ _ | exact VLe.fl_sl _ _ | exact VLe.nil_sl _ | exact VLe.nil_fl _ | refine VLe.agg ?_))) ⟨by repeat (first | exact uE | refine uN (by omega) ?_ | assumption | exact hd _ (by omega) | exact hd0 _ (by omega) | refine (hfz8 _ (by first | assumption | omega)).trans ?_ | fail), by repeat (first | exact uE | refine uN (by omega) ?_ | assumption | exact hd _ (by omega) | exact hd0 _ (by omega) | refine (hfz8 _ (by first | assumption | omega)).trans ?_ | fail), fam_ok (fun a_ ha_ => by repeat (first | exact hfam8 a_ ha_ | refine uN (by omega) ?_ | refine (hfz8 _ (by first | assumption | omega)).trans ?_ | fail))⟩ ?_
                  refine rl0 (gy rfl rfl rfl rfl rfl rfl) rfl rfl (step_unOp (c := .bool false) rfl (ev_mk rfl) (fun _ => rfl)) trivial ?_
                  refine rl0 (gn rfl) rfl rfl (step_pick rfl (ev_mk rfl) (ev_mk rfl)) trivial ?_
                  refine rl0 (gn rfl) rfl rfl (step_mv rfl rfl) trivial ?_
                  refine rl0 (gy rfl rfl rfl rfl rfl rfl) rfl rfl (step_mv rfl rfl) trivial ?_
                  refine rl0 (gy rfl rfl rfl rfl rfl rfl) rfl rfl (step_mv rfl rfl) trivial ?_
                  refine rl0 (gy rfl rfl rfl rfl rfl rfl) rfl rfl (step_len (m := (m.drop 1).length) rfl rfl (ev_mk rfl) (.inl ⟨⟨_, Try.underlying27⟩, .inl ⟨_, _, .inl rfl, List.length_map _⟩⟩)) trivial ?_
                  refine rl_gtr (gy rfl rfl rfl rfl rfl rfl) rfl rfl rfl rfl rfl (fun h10 => ?_) (fun h10 => ?_)
                  · skip
                    refine rl0 (gy rfl rfl rfl rfl rfl rfl) rfl rfl (step_neqb rfl (ev_mk rfl) (ev_mk rfl) Try.underlying4) trivial ?_
                    refine rl_know (d := 170) (c := false) rfl (by rw [decide_eq_true (show 0 < L - 1 by omega)]; rfl) ?_
                    refine rl0 (gn rfl) rfl rfl (step_pick rfl (ev_mk rfl) (ev_mk rfl)) trivial ?_
                    refine rl0 (gn rfl) rfl rfl (step_mv rfl rfl) trivial ?_
                    refine rl0 (gy rfl rfl rfl rfl rfl rfl) rfl rfl (step_mv rfl rfl) trivial ?_
                    refine rl_know (d := 173) (c := true) rfl (decide_eq_true (by omega)) ?_
                    refine rl0 (gy rfl rfl rfl rfl rfl rfl) rfl rfl (step_mv rfl rfl) trivial ?_
                    refine rl0 (gy rfl rfl rfl rfl rfl rfl) rfl rfl (step_mv rfl rfl) trivial ?_
                    refine rl0 (gy rfl rfl rfl rfl rfl rfl) rfl rfl (step_mv rfl rfl) trivial ?_
                    refine' rl0 (gy rfl rfl rfl rfl rfl rfl) rfl rfl (step_index rfl (ev_mk rfl) (.inl rfl) (ev_mk rfl) Try.underlying27 F.sz33 (by omega) ?hr) trivial ?_
                    case hr => exact map_at _ _ _ (by omega) (by omega)
                    refine rl0 (gy rfl rfl rfl rfl rfl rfl) rfl rfl (step_fieldAddr_ro (off := 0) rfl (ev_mk rfl) Try.underlying33 rfl F.sz3 rfl rfl) trivial ?_
                    refine rl0 (gy rfl rfl rfl rfl rfl rfl) rfl rfl (step_load_ro rfl (ev_mk rfl) F.one3 rfl) trivial ?_
                    refine rl_neq (gy rfl rfl rfl rfl rfl rfl) rfl rfl rfl rfl rfl (fun h11 => ?_) (fun h11 => ?_)
                    · exact False.elim (by exact absurd (hst_.top (by omega)).1 h11)
                    refine rl0 (gy rfl rfl rfl rfl rfl rfl) rfl rfl (step_pick rfl (ev_mk rfl) (ev_mk rfl)) trivial ?_
                    refine rl0 (gn rfl) rfl rfl (step_pick rfl (ev_mk rfl) (ev_mk rfl)) trivial ?_
                    refine runsL_nil ?_
                    refine runs_cond false (ev_mk rfl) (fun h_ => nomatch h_) (fun _ => ?_)
                    refine runs_skip ?_
                    refine runs_region ?_
                    refine rl0 (gn rfl) rfl rfl (step_mv rfl rfl) trivial ?_
                    refine rl0 (gn rfl) rfl rfl (step_add rfl (ev_mk rfl) (ev_mk rfl) (w64 (by omega))) trivial ?_
                    refine rl0 (gn rfl) rfl rfl (step_as rfl rfl) trivial ?_
                    refine runsL_nil ?_
                    have hq0_ : ((i : Int) + 1) = ((i + 1) : Int) := by omega
                    refine ⟨_, _, ?_, sle ?_ (Nat.le_refl _), (i + 1), (L - 1), M, v, c, (popH kf h L), kf, (m.drop 1), _, _, rfl, rfl, by omega, (fun k_ hk_ => by repeat (first | exact hf0 k_ hk_ | refine (hfz8 _ (by first | assumption | omega)).trans ?_ | refine uN (by first | assumption | omega) ?_ | fail)), by first | ((repeat (first | exact uE | assumption | refine uN (by omega) ?_ | refine (hfz8 _ (by first | assumption | omega)).trans ?_ | fail)); done) | exact tl_eq (by repeat (first | exact uE | assumption | refine uN (by omega) ?_ | refine (hfz8 _ (by first | assumption | omega)).trans ?_ | fail)) (by first | rfl | (simp [bytesV, beB_len]; done) | (simp [bytesV, beB_len]; omega) | omega) | (rw [← hq0_]; (repeat (first | exact uE | assumption | refine uN (by omega) ?_ | refine (hfz8 _ (by first | assumption | omega)).trans ?_ | fail)); done), by first | ((repeat (first | exact uE | assumption | refine uN (by omega) ?_ | refine (hfz8 _ (by first | assumption | omega)).trans ?_ | fail)); done) | exact tl_eq (by repeat (first | exact uE | assumption | refine uN (by omega) ?_ | refine (hfz8 _ (by first | assumption | omega)).trans ?_ | fail)) (by first | rfl | (simp [bytesV, beB_len]; done) | (simp [bytesV, beB_len]; omega) | omega) | (rw [← hq0_]; (repeat (first | exact uE | assumption | refine uN (by omega) ?_ | refine (hfz8 _ (by first | assumption | omega)).trans ?_ | fail)); done), by first | ((repeat (first | exact uE | assumption | refine uN (by omega) ?_ | refine (hfz8 _ (by first | assumption | omega)).trans ?_ | fail)); done) | exact tl_eq (by repeat (first | exact uE | assumption | refine uN (by omega) ?_ | refine (hfz8 _ (by first | assumption | omega)).trans ?_ | fail)) (by first | rfl | (simp [bytesV, beB_len]; done) | (simp [bytesV, beB_len]; omega) | omega) | (rw [← hq0_]; (repeat (first | exact uE | assumption | refine uN (by omega) ?_ | refine (hfz8 _ (by first | assumption | omega)).trans ?_ | fail)); done), ⟨by omega, by omega, by omega⟩, hst_1, (fun a_ ha_ => by repeat (first | exact hfam8 a_ ha_ | refine uN (by omega) ?_ | refine (hfz8 _ (by first | assumption | omega)).trans ?_ | fail)), (fun a_ h1_ h2_ => by repeat (first | exact hF0_3 a_ (by omega) h2_ | refine uN (by omega) ?_ | refine (hfz8 _ (by first | assumption | omega)).trans ?_ | fail))⟩
                    · omega
                    · (repeat' (first | exact trivial | refine ⟨⟨_, rfl, ?_⟩, ?_⟩ | fail)); all_goals (repeat' (first | exact VLe.refl _ | exact VLe.own_sl _ _ _ | exact VLe.fl_sl _ _ | exact VLe.nil_sl _ | exact VLe.nil_fl _ | exact VLes.refl _ | exact .nil | refine VLe.tup ?_ | refine VLe.agg ?_ | refine .cons ?_ ?_ | (rw [Int.natCast_add]; exact VLe.refl _) | exact vle_int (by omega) | exact vle_bool (by first | rfl | assumption | (simp_all; done) | fail) | (rw [← hq0_]; exact VLe.refl _) | (rw [hq0_]; exact VLe.refl _) | fail))
                  · skip
                    refine rl0 (gy rfl rfl rfl rfl rfl rfl) rfl rfl (step_neqb rfl (ev_mk rfl) (ev_mk rfl) Try.underlying4) trivial ?_
                    refine rl_know (d := 170) (c := false) rfl (by rw [decide_eq_false (show ¬ 0 < L - 1 by omega)]; rfl) ?_
                    refine rl0 (gn rfl) rfl rfl (step_pick rfl (ev_mk rfl) (ev_mk rfl)) trivial ?_
                    refine rl0 (gn rfl) rfl rfl (step_mv rfl rfl) trivial ?_
                    refine rl0 (gy rfl rfl rfl rfl rfl rfl) rfl rfl (step_mv rfl rfl) trivial ?_
                    refine rl_know (d := 173) (c := false) rfl (decide_eq_false (by omega)) ?_
                    refine rl0 (gy rfl rfl rfl rfl rfl rfl) rfl rfl (step_mv rfl rfl) trivial ?_
                    refine rlk rfl rfl rfl rfl rfl (ngb rfl rfl) rfl rfl ?_
                    refine rlk rfl rfl rfl rfl rfl (ngb rfl rfl) rfl rfl ?_
                    refine rlk rfl rfl rfl rfl rfl (ngb rfl rfl) rfl rfl ?_
                    refine rlk rfl rfl rfl rfl rfl (ngb rfl rfl) rfl rfl ?_
                    refine rlk rfl rfl rfl rfl rfl (ngb rfl rfl) rfl rfl ?_
                    refine rlk rfl rfl rfl rfl rfl (ngb rfl rfl) rfl rfl ?_
                    refine rl0 (gy rfl rfl rfl rfl rfl rfl) rfl rfl (step_pick rfl (ev_mk rfl) (ev_mk rfl)) trivial ?_
                    refine rl0 (gn rfl) rfl rfl (step_pick rfl (ev_mk rfl) (ev_mk rfl)) trivial ?_
                    refine runsL_nil ?_
                    refine runs_cond false (ev_mk rfl) (fun h_ => nomatch h_) (fun _ => ?_)
                    refine runs_skip ?_
                    refine runs_region ?_
                    refine rl0 (gn rfl) rfl rfl (step_mv rfl rfl) trivial ?_
                    refine rl0 (gn rfl) rfl rfl (step_add rfl (ev_mk rfl) (ev_mk rfl) (w64 (by omega))) trivial ?_
                    refine rl0 (gn rfl) rfl rfl (step_as rfl rfl) trivial ?_
                    refine runsL_nil ?_
                    have hq0_ : ((i : Int) + 1) = ((i + 1) : Int) := by omega
                    refine ⟨_, _, ?_, sle ?_ (Nat.le_refl _), (i + 1), (L - 1), M, v, c, (popH kf h L), kf, (m.drop 1), _, _, rfl, rfl, by omega, (fun k_ hk_ => by repeat (first | exact hf0 k_ hk_ | refine (hfz8 _ (by first | assumption | omega)).trans ?_ | refine uN (by first | assumption | omega) ?_ | fail)), by first | ((repeat (first | exact uE | assumption | refine uN (by omega) ?_ | refine (hfz8 _ (by first | assumption | omega)).trans ?_ | fail)); done) | exact tl_eq (by repeat (first | exact uE | assumption | refine uN (by omega) ?_ | refine (hfz8 _ (by first | assumption | omega)).trans ?_ | fail)) (by first | rfl | (simp [bytesV, beB_len]; done) | (simp [bytesV, beB_len]; omega) | omega) | (rw [← hq0_]; (repeat (first | exact uE | assumption | refine uN (by omega) ?_ | refine (hfz8 _ (by first | assumption | omega)).trans ?_ | fail)); done), by first | ((repeat (first | exact uE | assumption | refine uN (by omega) ?_ | refine (hfz8 _ (by first | assumption | omega)).trans ?_ | fail)); done) | exact tl_eq (by repeat (first | exact uE | assumption | refine uN (by omega) ?_ | refine (hfz8 _ (by first | assumption | omega)).trans ?_ | fail)) (by first | rfl | (simp [bytesV, beB_len]; done) | (simp [bytesV, beB_len]; omega) | omega) | (rw [← hq0_]; (repeat (first | exact uE | assumption | refine uN (by omega) ?_ | refine (hfz8 _ (by first | assumption | omega)).trans ?_ | fail)); done), by first | ((repeat (first | exact uE | assumption | refine uN (by omega) ?_ | refine (hfz8 _ (by first | assumption | omega)).trans ?_ | fail)); done) | exact tl_eq (by repeat (first | exact uE | assumption | refine uN (by omega) ?_ | refine (hfz8 _ (by first | assumption | omega)).trans ?_ | fail)) (by first | rfl | (simp [bytesV, beB_len]; done) | (simp [bytesV, beB_len]; omega) | omega) | (rw [← hq0_]; (repeat (first | exact uE | assumption | refine uN (by omega) ?_ | refine (hfz8 _ (by first | assumption | omega)).trans ?_ | fail)); done), ⟨by omega, by omega, by omega⟩, hst_1, (fun a_ ha_ => by repeat (first | exact hfam8 a_ ha_ | refine uN (by omega) ?_ | refine (hfz8 _ (by first | assumption | omega)).trans ?_ | fail)), (fun a_ h1_ h2_ => by repeat (first | exact hF0_3 a_ (by omega) h2_ | refine uN (by omega) ?_ | refine (hfz8 _ (by first | assumption | omega)).trans ?_ | fail))⟩
                    · omega
                    · (repeat' (first | exact trivial | refine ⟨⟨_, rfl, ?_⟩, ?_⟩ | fail)); all_goals (repeat' (first | exact VLe.refl _ | exact VLe.own_sl _ _ _ | exact VLe.fl_sl _ _ | exact VLe.nil_sl _ | exact VLe.nil_fl _ | exact VLes.refl _ | exact .nil | refine VLe.tup ?_ | refine VLe.agg ?_ | refine .cons ?_ ?_ | (rw [Int.natCast_add]; exact VLe.refl _) | exact vle_int (by omega) | exact vle_bool (by first | rfl | assumption | (simp_all; done) | fail) | (rw [← hq0_]; exact VLe.refl _) | (rw [hq0_]; exact VLe.refl _) | fail))
                · skip
                  refine rl0 (gn rfl) rfl rfl (step_neqb rfl (ev_mk rfl) (ev_mk rfl) Try.underlying4) trivial ?_
                  refine rl_know (d := 84) (c := false) rfl (by rw [decide_eq_false (show ¬ 0 < L by omega)]; rfl) ?_
                  refine rl0 (gn rfl) rfl rfl (step_mv rfl rfl) trivial ?_
                  refine rl0 (gy rfl rfl rfl rfl rfl rfl) rfl rfl (step_mv rfl rfl) trivial ?_
                  refine rl_know (d := 86) (c := false) rfl (decide_eq_false (by omega)) ?_
                  refine rl0 (gy rfl rfl rfl rfl rfl rfl) rfl rfl (step_mv rfl rfl) trivial ?_
                  refine rlk rfl rfl rfl rfl rfl (ngb rfl rfl) rfl rfl ?_
                  refine rlk rfl rfl rfl rfl rfl (ngb rfl rfl) rfl rfl ?_
                  refine rlk rfl rfl rfl rfl rfl (ngb rfl rfl) rfl rfl ?_
                  refine rlk rfl rfl rfl rfl rfl (ngb rfl rfl) rfl rfl ?_
                  refine rlk rfl rfl rfl rfl rfl (ngb rfl rfl) rfl rfl ?_
                  refine rlk rfl rfl rfl rfl rfl (ngb rfl rfl) rfl rfl ?_
                  refine rl0 (gy rfl rfl rfl rfl rfl rfl) rfl rfl (step_pick rfl (ev_mk rfl) (ev_mk rfl)) trivial ?_
                  refine rl0 (gn rfl) rfl rfl (step_pick rfl (ev_mk rfl) (ev_mk rfl)) trivial ?_
                  refine runsL_nil ?_
                  refine runs_cond false (ev_mk rfl) (fun h_ => nomatch h_) (fun _ => ?_)
                  refine runs_skip ?_
                  refine runs_seq ?_
                  have hst_1 : Hst kf (popH kf h L) (L - 1) M c m := (by have e_ : L = 0 := (by omega); subst e_; exact hF0_1)
                  refine runs_region ?_
                  refine rl0 (gn rfl) rfl rfl (step_mv rfl rfl) trivial ?_
                  refine rl_know (d := 96) (c := false) rfl (decide_eq_false (by omega)) ?_
                  refine runsL_nil ?_
                  refine runs_cond false (ev_mk rfl) (fun h_ => nomatch h_) (fun _ => ?_)
                  refine runs_skip ?_
                  refine runs_seq ?_
                  have hst_ : Hst kf (popH kf h L) (L - 1) M c m := hst_1
                  have hLm_ := hst_.rel.len
                  have hrn_ := rmN_le h L (nIx (at' l (i : Int)).m c)
                  refine runs_region ?_
                  refine rl0 (gn rfl) rfl rfl (step_mv rfl rfl) trivial ?_
                  refine rl0 (gn rfl) rfl rfl (step_callc rfl Try.func15 rfl rfl rfl (top_c kf (popH kf h L) (n + 10) (n + 0) (n + 1) v (L - 1) M c hst_.le hst_.lt) (by repeat (first | exact .nil | refine .cons ?_ ?_ | exact VLe.refl _ | exact vle_int (by omega) | exact vle_int (kgF_c _ _ _) | exact vle_int (kgF_c _ _ _).symm | exact VLe.own_sl _ _ _ | exact VLe.fl_sl _ _ | exact VLe.nil_sl _ | exact VLe.nil_fl _ | refine VLe.agg ?_))) ⟨by repeat (first | exact uE | refine uN (by omega) ?_ | assumption | exact hd _ (by omega) | exact hd0 _ (by omega) | refine (hfz8 _ (by first | assumption | omega)).trans ?_ | fail), by repeat (first | exact uE | refine uN (by omega) ?_ | assumption | exact hd _ (by omega) | exact hd0 _ (by omega) | refine (hfz8 _ (by first | assumption | omega)).trans ?_ | fail), fam_ok (fun a_ ha_ => by repeat (first | exact hfam8 a_ ha_ | refine uN (by omega) ?_ | refine (hfz8 _ (by first | assumption | omega)).trans ?_ | fail))⟩ ?_
                  refine rl0 (gn rfl) rfl rfl (step_mv rfl rfl) trivial ?_
                  refine rl0 (gn rfl) rfl rfl (step_extract rfl (ev_mk rfl) rfl) trivial ?_
                  refine rl0 (gn rfl) rfl rfl (step_extract rfl (ev_mk rfl) rfl) trivial ?_
                  refine rl0 (gn rfl) rfl rfl (step_as rfl rfl) trivial ?_
                  refine rl0 (gn rfl) rfl rfl (step_as rfl rfl) trivial ?_
                  refine runsL_nil ?_
                  refine runs_seq ?_
                  refine runs_region ?_
                  refine rl0 (gn rfl) rfl rfl (step_mv rfl rfl) trivial ?_
                  refine rl0 (gn rfl) rfl rfl (step_callc rfl Try.func16 rfl rfl rfl (len_c (n + 0) (n + 1) v (L - 1) c) (by repeat (first | exact .nil | refine .cons ?_ ?_ | exact VLe.refl _ | exact vle_int (by omega) | exact vle_int (kgF_c _ _ _) | exact vle_int (kgF_c _ _ _).symm | exact VLe.own_sl _ _ _ | exact VLe.fl_sl _ _ | exact VLe.nil_sl _ | exact VLe.nil_fl _ | refine VLe.agg ?_))) ⟨by repeat (first | exact uE | refine uN (by omega) ?_ | assumption | exact hd _ (by omega) | exact hd0 _ (by omega) | refine (hfz8 _ (by first | assumption | omega)).trans ?_ | fail), trivial⟩ ?_
                  refine rl0 (gn rfl) rfl rfl (step_mv rfl rfl) trivial ?_
                  refine rl0 (gn rfl) rfl rfl (step_len (m := m.length) rfl rfl (ev_mk rfl) (.inl ⟨⟨_, Try.underlying27⟩, .inl ⟨_, _, .inl rfl, List.length_map _⟩⟩)) trivial ?_
                  refine rl_neq (gn rfl) rfl rfl rfl rfl rfl (fun h8 => ?_) (fun h8 => ?_)
                  · exact False.elim (by omega)
                  refine rl0 (gn rfl) rfl rfl (step_mv rfl rfl) trivial ?_
                  refine rl0 (gy rfl rfl rfl rfl rfl rfl) rfl rfl (step_mv rfl rfl) trivial ?_
                  refine rl0 (gy rfl rfl rfl rfl rfl rfl) rfl rfl (step_callc rfl Try.func17 rfl rfl rfl (sound_c kf (popH kf h L) (n + 10) (n + 0) (n + 1) v (L - 1) M c hst_.le (by omega) hst_.inj hst_.lt hst_.rel.hp) (by repeat (first | exact .nil | refine .cons ?_ ?_ | exact VLe.refl _ | exact vle_int (by omega) | exact vle_int (kgF_c _ _ _) | exact vle_int (kgF_c _ _ _).symm | exact VLe.own_sl _ _ _ | exact VLe.fl_sl _ _ | exact VLe.nil_sl _ | exact VLe.nil_fl _ | refine VLe.agg ?_))) ⟨by repeat (first | exact uE | refine uN (by omega) ?_ | assumption | exact hd _ (by omega) | exact hd0 _ (by omega) | refine (hfz8 _ (by first | assumption | omega)).trans ?_ | fail), by repeat (first | exact uE | refine uN (by omega) ?_ | assumption | exact hd _ (by omega) | exact hd0 _ (by omega) | refine (hfz8 _ (by first | assumption | omega)).trans ?_ | fail), fam_ok (fun a_ ha_ => by repeat (first | exact hfam8 a_ ha_ | refine uN (by omega) ?_ | refine (hfz8 _ (by first | assumption | omega)).trans ?_ | fail))⟩ ?_
                  refine rl0 (gy rfl rfl rfl rfl rfl rfl) rfl rfl (step_unOp (c := .bool false) rfl (ev_mk rfl) (fun _ => rfl)) trivial ?_
                  refine rl0 (gn rfl) rfl rfl (step_pick rfl (ev_mk rfl) (ev_mk rfl)) trivial ?_
                  refine rl0 (gn rfl) rfl rfl (step_mv rfl rfl) trivial ?_
                  refine rl0 (gy rfl rfl rfl rfl rfl rfl) rfl rfl (step_mv rfl rfl) trivial ?_
                  refine rl0 (gy rfl rfl rfl rfl rfl rfl) rfl rfl (step_mv rfl rfl) trivial ?_
                  refine rl0 (gy rfl rfl rfl rfl rfl rfl) rfl rfl (step_len (m := m.length) rfl rfl (ev_mk rfl) (.inl ⟨⟨_, Try.underlying27⟩, .inl ⟨_, _, .inl rfl, List.length_map _⟩⟩)) trivial ?_
                  refine rl_gtr (gy rfl rfl rfl rfl rfl rfl) rfl rfl rfl rfl rfl (fun h9 => ?_) (fun h9 => ?_)
                  · skip
                    refine rl0 (gy rfl rfl rfl rfl rfl rfl) rfl rfl (step_neqb rfl (ev_mk rfl) (ev_mk rfl) Try.underlying4) trivial ?_
                    refine rl_know (d := 170) (c := false) rfl (by rw [decide_eq_true (show 0 < L - 1 by omega)]; rfl) ?_
                    refine rl0 (gn rfl) rfl rfl (step_pick rfl (ev_mk rfl) (ev_mk rfl)) trivial ?_
                    refine rl0 (gn rfl) rfl rfl (step_mv rfl rfl) trivial ?_
                    refine rl0 (gy rfl rfl rfl rfl rfl rfl) rfl rfl (step_mv rfl rfl) trivial ?_
                    refine rl_know (d := 173) (c := true) rfl (decide_eq_true (by omega)) ?_
                    refine rl0 (gy rfl rfl rfl rfl rfl rfl) rfl rfl (step_mv rfl rfl) trivial ?_
                    refine rl0 (gy rfl rfl rfl rfl rfl rfl) rfl rfl (step_mv rfl rfl) trivial ?_
                    refine rl0 (gy rfl rfl rfl rfl rfl rfl) rfl rfl (step_mv rfl rfl) trivial ?_
                    refine' rl0 (gy rfl rfl rfl rfl rfl rfl) rfl rfl (step_index rfl (ev_mk rfl) (.inl rfl) (ev_mk rfl) Try.underlying27 F.sz33 (by omega) ?hr) trivial ?_
                    case hr => exact map_at _ _ _ (by omega) (by omega)
                    refine rl0 (gy rfl rfl rfl rfl rfl rfl) rfl rfl (step_fieldAddr_ro (off := 0) rfl (ev_mk rfl) Try.underlying33 rfl F.sz3 rfl rfl) trivial ?_
                    refine rl0 (gy rfl rfl rfl rfl rfl rfl) rfl rfl (step_load_ro rfl (ev_mk rfl) F.one3 rfl) trivial ?_
                    refine rl_neq (gy rfl rfl rfl rfl rfl rfl) rfl rfl rfl rfl rfl (fun h10 => ?_) (fun h10 => ?_)
                    · exact False.elim (by exact absurd (hst_.top (by omega)).1 h10)
                    refine rl0 (gy rfl rfl rfl rfl rfl rfl) rfl rfl (step_pick rfl (ev_mk rfl) (ev_mk rfl)) trivial ?_
                    refine rl0 (gn rfl) rfl rfl (step_pick rfl (ev_mk rfl) (ev_mk rfl)) trivial ?_
                    refine runsL_nil ?_
                    refine runs_cond false (ev_mk rfl) (fun h_ => nomatch h_) (fun _ => ?_)
                    refine runs_skip ?_
                    refine runs_region ?_
                    refine rl0 (gn rfl) rfl rfl (step_mv rfl rfl) trivial ?_
                    refine rl0 (gn rfl) rfl rfl (step_add rfl (ev_mk rfl) (ev_mk rfl) (w64 (by omega))) trivial ?_
                    refine rl0 (gn rfl) rfl rfl (step_as rfl rfl) trivial ?_
                    refine runsL_nil ?_
                    have hq0_ : ((i : Int) + 1) = ((i + 1) : Int) := by omega
                    refine ⟨_, _, ?_, sle ?_ (Nat.le_refl _), (i + 1), (L - 1), M, v, c, (popH kf h L), kf, m, _, _, rfl, rfl, by omega, (fun k_ hk_ => by repeat (first | exact hf0 k_ hk_ | refine (hfz8 _ (by first | assumption | omega)).trans ?_ | refine uN (by first | assumption | omega) ?_ | fail)), by first | ((repeat (first | exact uE | assumption | refine uN (by omega) ?_ | refine (hfz8 _ (by first | assumption | omega)).trans ?_ | fail)); done) | exact tl_eq (by repeat (first | exact uE | assumption | refine uN (by omega) ?_ | refine (hfz8 _ (by first | assumption | omega)).trans ?_ | fail)) (by first | rfl | (simp [bytesV, beB_len]; done) | (simp [bytesV, beB_len]; omega) | omega) | (rw [← hq0_]; (repeat (first | exact uE | assumption | refine uN (by omega) ?_ | refine (hfz8 _ (by first | assumption | omega)).trans ?_ | fail)); done), by first | ((repeat (first | exact uE | assumption | refine uN (by omega) ?_ | refine (hfz8 _ (by first | assumption | omega)).trans ?_ | fail)); done) | exact tl_eq (by repeat (first | exact uE | assumption | refine uN (by omega) ?_ | refine (hfz8 _ (by first | assumption | omega)).trans ?_ | fail)) (by first | rfl | (simp [bytesV, beB_len]; done) | (simp [bytesV, beB_len]; omega) | omega) | (rw [← hq0_]; (repeat (first | exact uE | assumption | refine uN (by omega) ?_ | refine (hfz8 _ (by first | assumption | omega)).trans ?_ | fail)); done), by first | ((repeat (first | exact uE | assumption | refine uN (by omega) ?_ | refine (hfz8 _ (by first | assumption | omega)).trans ?_ | fail)); done) | exact tl_eq (by repeat (first | exact uE | assumption | refine uN (by omega) ?_ | refine (hfz8 _ (by first | assumption | omega)).trans ?_ | fail)) (by first | rfl | (simp [bytesV, beB_len]; done) | (simp [bytesV, beB_len]; omega) | omega) | (rw [← hq0_]; (repeat (first | exact uE | assumption | refine uN (by omega) ?_ | refine (hfz8 _ (by first | assumption | omega)).trans ?_ | fail)); done), ⟨by omega, by omega, by omega⟩, hst_1, (fun a_ ha_ => by repeat (first | exact hfam8 a_ ha_ | refine uN (by omega) ?_ | refine (hfz8 _ (by first | assumption | omega)).trans ?_ | fail)), (fun a_ h1_ h2_ => by repeat (first | exact hF0_3 a_ (by omega) h2_ | refine uN (by omega) ?_ | refine (hfz8 _ (by first | assumption | omega)).trans ?_ | fail))⟩
                    · omega
                    · (repeat' (first | exact trivial | refine ⟨⟨_, rfl, ?_⟩, ?_⟩ | fail)); all_goals (repeat' (first | exact VLe.refl _ | exact VLe.own_sl _ _ _ | exact VLe.fl_sl _ _ | exact VLe.nil_sl _ | exact VLe.nil_fl _ | exact VLes.refl _ | exact .nil | refine VLe.tup ?_ | refine VLe.agg ?_ | refine .cons ?_ ?_ | (rw [Int.natCast_add]; exact VLe.refl _) | exact vle_int (by omega) | exact vle_bool (by first | rfl | assumption | (simp_all; done) | fail) | (rw [← hq0_]; exact VLe.refl _) | (rw [hq0_]; exact VLe.refl _) | fail))
                  · skip
                    refine rl0 (gy rfl rfl rfl rfl rfl rfl) rfl rfl (step_neqb rfl (ev_mk rfl) (ev_mk rfl) Try.underlying4) trivial ?_
                    refine rl_know (d := 170) (c := false) rfl (by rw [decide_eq_false (show ¬ 0 < L - 1 by omega)]; rfl) ?_
                    refine rl0 (gn rfl) rfl rfl (step_pick rfl (ev_mk rfl) (ev_mk rfl)) trivial ?_
                    refine rl0 (gn rfl) rfl rfl (step_mv rfl rfl) trivial ?_
                    refine rl0 (gy rfl rfl rfl rfl rfl rfl) rfl rfl (step_mv rfl rfl) trivial ?_
                    refine rl_know (d := 173) (c := false) rfl (decide_eq_false (by omega)) ?_
                    refine rl0 (gy rfl rfl rfl rfl rfl rfl) rfl rfl (step_mv rfl rfl) trivial ?_
                    refine rlk rfl rfl rfl rfl rfl (ngb rfl rfl) rfl rfl ?_
                    refine rlk rfl rfl rfl rfl rfl (ngb rfl rfl) rfl rfl ?_
                    refine rlk rfl rfl rfl rfl rfl (ngb rfl rfl) rfl rfl ?_
                    refine rlk rfl rfl rfl rfl rfl (ngb rfl rfl) rfl rfl ?_
                    refine rlk rfl rfl rfl rfl rfl (ngb rfl rfl) rfl rfl ?_
                    refine rlk rfl rfl rfl rfl rfl (ngb rfl rfl) rfl rfl ?_
                    refine rl0 (gy rfl rfl rfl rfl rfl rfl) rfl rfl (step_pick rfl (ev_mk rfl) (ev_mk rfl)) trivial ?_
                    refine rl0 (gn rfl) rfl rfl (step_pick rfl (ev_mk rfl) (ev_mk rfl)) trivial ?_
                    refine runsL_nil ?_
                    refine runs_cond false (ev_mk rfl) (fun h_ => nomatch h_) (fun _ => ?_)
                    refine runs_skip ?_
                    refine runs_region ?_
                    refine rl0 (gn rfl) rfl rfl (step_mv rfl rfl) trivial ?_
                    refine rl0 (gn rfl) rfl rfl (step_add rfl (ev_mk rfl) (ev_mk rfl) (w64 (by omega))) trivial ?_
                    refine rl0 (gn rfl) rfl rfl (step_as rfl rfl) trivial ?_
                    refine runsL_nil ?_
                    have hq0_ : ((i : Int) + 1) = ((i + 1) : Int) := by omega
                    refine ⟨_, _, ?_, sle ?_ (Nat.le_refl _), (i + 1), (L - 1), M, v, c, (popH kf h L), kf, m, _, _, rfl, rfl, by omega, (fun k_ hk_ => by repeat (first | exact hf0 k_ hk_ | refine (hfz8 _ (by first | assumption | omega)).trans ?_ | refine uN (by first | assumption | omega) ?_ | fail)), by first | ((repeat (first | exact uE | assumption | refine uN (by omega) ?_ | refine (hfz8 _ (by first | assumption | omega)).trans ?_ | fail)); done) | exact tl_eq (by repeat (first | exact uE | assumption | refine uN (by omega) ?_ | refine (hfz8 _ (by first | assumption | omega)).trans ?_ | fail)) (by first | rfl | (simp [bytesV, beB_len]; done) | (simp [bytesV, beB_len]; omega) | omega) | (rw [← hq0_]; (repeat (first | exact uE | assumption | refine uN (by omega) ?_ | refine (hfz8 _ (by first | assumption | omega)).trans ?_ | fail)); done), by first | ((repeat (first | exact uE | assumption | refine uN (by omega) ?_ | refine (hfz8 _ (by first | assumption | omega)).trans ?_ | fail)); done) | exact tl_eq (by repeat (first | exact uE | assumption | refine uN (by omega) ?_ | refine (hfz8 _ (by first | assumption | omega)).trans ?_ | fail)) (by first | rfl | (simp [bytesV, beB_len]; done) | (simp [bytesV, beB_len]; omega) | omega) | (rw [← hq0_]; (repeat (first | exact uE | assumption | refine uN (by omega) ?_ | refine (hfz8 _ (by first | assumption | omega)).trans ?_ | fail)); done), by first | ((repeat (first | exact uE | assumption | refine uN (by omega) ?_ | refine (hfz8 _ (by first | assumption | omega)).trans ?_ | fail)); done) | exact tl_eq (by repeat (first | exact uE | assumption | refine uN (by omega) ?_ | refine (hfz8 _ (by first | assumption | omega)).trans ?_ | fail)) (by first | rfl | (simp [bytesV, beB_len]; done) | (simp [bytesV, beB_len]; omega) | omega) | (rw [← hq0_]; (repeat (first | exact uE | assumption | refine uN (by omega) ?_ | refine (hfz8 _ (by first | assumption | omega)).trans ?_ | fail)); done), ⟨by omega, by omega, by omega⟩, hst_1, (fun a_ ha_ => by repeat (first | exact hfam8 a_ ha_ | refine uN (by omega) ?_ | refine (hfz8 _ (by first | assumption | omega)).trans ?_ | fail)), (fun a_ h1_ h2_ => by repeat (first | exact hF0_3 a_ (by omega) h2_ | refine uN (by omega) ?_ | refine (hfz8 _ (by first | assumption | omega)).trans ?_ | fail))⟩
                    · omega
                    · (repeat' (first | exact trivial | refine ⟨⟨_, rfl, ?_⟩, ?_⟩ | fail)); all_goals (repeat' (first | exact VLe.refl _ | exact VLe.own_sl _ _ _ | exact VLe.fl_sl _ _ | exact VLe.nil_sl _ | exact VLe.nil_fl _ | exact VLes.refl _ | exact .nil | refine VLe.tup ?_ | refine VLe.agg ?_ | refine .cons ?_ ?_ | (rw [Int.natCast_add]; exact VLe.refl _) | exact vle_int (by omega) | exact vle_bool (by first | rfl | assumption | (simp_all; done) | fail) | (rw [← hq0_]; exact VLe.refl _) | (rw [hq0_]; exact VLe.refl _) | fail))
              · skip
                refine rl0 (gn rfl) rfl rfl (step_as rfl rfl) trivial ?_
                refine runsL_nil ?_
                refine runs_cond false (ev_mk rfl) (fun h_ => nomatch h_) (fun _ => ?_)
                refine runs_seq ?_
                refine runs_region ?_
                refine rl0 (gn rfl) rfl rfl (step_mv rfl rfl) trivial ?_
                refine rl0 (gn rfl) rfl rfl (step_len (m := c) rfl rfl (ev_mk rfl) (.inl ⟨⟨_, Try.underlying28⟩, .inl ⟨_, _, .inr (.inr ⟨_, rfl⟩), allR_len _ _⟩⟩)) trivial ?_
                refine rl_eql (gn rfl) rfl rfl rfl rfl rfl (fun h7 => ?_) (fun h7 => ?_)
                rotate_left
                · exact False.elim (by omega)
                refine rl0 (gn rfl) rfl rfl (step_as rfl rfl) trivial ?_
                refine runsL_nil ?_
                refine runs_cond true (ev_mk rfl) (fun _ => ?_) (fun h_ => nomatch h_)
                refine runs_exit ?_
                refine runs_region ?_
                refine rl0 (gn rfl) rfl rfl (step_mv rfl rfl) trivial ?_
                refine rl0 (gn rfl) rfl rfl (step_add rfl (ev_mk rfl) (ev_mk rfl) (w64 (by omega))) trivial ?_
                refine rl0 (gn rfl) rfl rfl (step_as rfl rfl) trivial ?_
                refine runsL_nil ?_
                have hq0_ : ((i : Int) + 1) = ((i + 1) : Int) := by omega
                refine ⟨_, _, ?_, sle ?_ (Nat.le_refl _), (i + 1), L, M, v, c, h, kf, m, _, _, rfl, rfl, by omega, (fun k_ hk_ => by repeat (first | exact hf0 k_ hk_ | refine uN (by first | assumption | omega) ?_ | fail)), by first | ((repeat (first | exact uE | assumption | refine uN (by omega) ?_ | fail)); done) | exact tl_eq (by repeat (first | exact uE | assumption | refine uN (by omega) ?_ | fail)) (by first | rfl | (simp [bytesV, beB_len]; done) | (simp [bytesV, beB_len]; omega) | omega) | (rw [← hq0_]; (repeat (first | exact uE | assumption | refine uN (by omega) ?_ | fail)); done), by first | ((repeat (first | exact uE | assumption | refine uN (by omega) ?_ | fail)); done) | exact tl_eq (by repeat (first | exact uE | assumption | refine uN (by omega) ?_ | fail)) (by first | rfl | (simp [bytesV, beB_len]; done) | (simp [bytesV, beB_len]; omega) | omega) | (rw [← hq0_]; (repeat (first | exact uE | assumption | refine uN (by omega) ?_ | fail)); done), by first | ((repeat (first | exact uE | assumption | refine uN (by omega) ?_ | fail)); done) | exact tl_eq (by repeat (first | exact uE | assumption | refine uN (by omega) ?_ | fail)) (by first | rfl | (simp [bytesV, beB_len]; done) | (simp [bytesV, beB_len]; omega) | omega) | (rw [← hq0_]; (repeat (first | exact uE | assumption | refine uN (by omega) ?_ | fail)); done), ⟨by omega, by omega, by omega⟩, hF0_1, (fun a_ ha_ => by repeat (first | exact hF0_2 a_ ha_ | refine uN (by omega) ?_ | fail)), (fun a_ h1_ h2_ => by repeat (first | exact hF0_3 a_ (by omega) h2_ | refine uN (by omega) ?_ | fail))⟩
                · omega
                · (repeat' (first | exact trivial | refine ⟨⟨_, rfl, ?_⟩, ?_⟩ | fail)); all_goals (repeat' (first | exact VLe.refl _ | exact VLe.own_sl _ _ _ | exact VLe.fl_sl _ _ | exact VLe.nil_sl _ | exact VLe.nil_fl _ | exact VLes.refl _ | exact .nil | refine VLe.tup ?_ | refine VLe.agg ?_ | refine .cons ?_ ?_ | (rw [Int.natCast_add]; exact VLe.refl _) | exact vle_int (by omega) | exact vle_bool (by first | rfl | assumption | (simp_all; done) | fail) | (rw [← hq0_]; exact VLe.refl _) | (rw [hq0_]; exact VLe.refl _) | fail))
      · skip
        refine runsL_nil ?_
        refine runs_cond false (ev_mk rfl) (fun h_ => nomatch h_) (fun _ => ?_)
        refine runs_exit ?_
        refine runs_seq ?_
        refine runs_region ?_
        refine rl0 (gn rfl) rfl rfl (step_callc rfl Try.func6 rfl rfl rfl (works_c) (by repeat (first | exact .nil | refine .cons ?_ ?_ | exact VLe.refl _ | exact vle_int (by omega) | exact vle_int (kgF_c _ _ _) | exact vle_int (kgF_c _ _ _).symm | exact VLe.own_sl _ _ _ | exact VLe.fl_sl _ _ | exact VLe.nil_sl _ | exact VLe.nil_fl _ | refine VLe.agg ?_))) trivial ?_
        refine rl0 (gn rfl) rfl rfl (step_as rfl rfl) trivial ?_
        refine runsL_nil ?_
        refine runs_ret ?_
        refine ⟨by first | exact .inr rfl | exact .inl rfl, fin_mkg (rest rfl res0) ?_ ?_ ?_ ?_ ?_⟩
        · (repeat' (first | exact VLe.refl _ | exact VLe.own_sl _ _ _ | exact VLe.fl_sl _ _ | exact VLe.nil_sl _ | exact VLe.nil_fl _ | exact VLes.refl _ | exact .nil | refine VLe.tup ?_ | refine VLe.agg ?_ | refine .cons ?_ ?_ | (rw [Int.natCast_add]; exact VLe.refl _) | exact vle_int (by omega) | exact vle_bool (by first | rfl | assumption | (simp_all; done) | fail) | fail))
        · first | ((repeat (first | exact trivial | exact allR_bd (by omega) | assumption | omega | refine ⟨?_, ?_⟩ | fail)); done) | (repeat (first | exact trivial | assumption | omega | (refine bdR_map (fun _ => ?_)) | (refine bdL_map (fun _ => ?_)) | refine ⟨?_, ?_⟩ | fail))
        · intro k_ hk_; exact ble (by repeat (first | exact rfl | refine uN (by omega) ?_ | assumption | exact hf0 _ (by omega) | fail))
        · intro p hp; cases hp
        · first | ((repeat (first | exact trivial | exact allR_bd (by omega) | assumption | omega | refine ⟨?_, ?_⟩ | fail)); done) | (repeat (first | exact trivial | assumption | omega | (refine bdR_map (fun _ => ?_)) | (refine bdL_map (fun _ => ?_)) | refine ⟨?_, ?_⟩ | fail))
end Go.Proofs.Ytggeejghchnpaaa
