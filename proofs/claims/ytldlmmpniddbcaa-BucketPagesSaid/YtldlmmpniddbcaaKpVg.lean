/- Walks by the logic of values. -/
import Derived.Test.YtldlmmpniddbcaaKpVmT
import Derived.Test.YtldlmmpniddbcaaKpVmP
import Derived.Test.YtldlmmpniddbcaaKpVa
import Derived.Test.YtldlmmpniddbcaaKpVc
import Derived.Test.YtldlmmpniddbcaaKpVo
import Derived.Test.YtldlmmpniddbcaaKpVe
namespace Go.Proofs.Ytldlmmpniddbcaa
open Go.Vm
set_option linter.unusedVariables false
set_option linter.unusedSimpArgs false
attribute [local irreducible] Go.Vm.beB Go.Vm.fieldB
theorem step_minr {P : Program} {o : Oper} {t : Nat → V} {x y : Operand} {tys : Array TypeId} {k : IntKind} {a b r : Int} (ho : o.op = .call { callee := .builtin .min, args := #[x, y], argTypes := tys }) (hx : ev t x = .sc (.int k a)) (hy : ev t y = .sc (.int k b)) (h : (if b < a then b else a) = r) : StepOK P o t [] [] (.sc (.int k r)) := h ▸ step_min ho hx hy

def ptsA (l : List Rc) (i : Nat) : List Rc := (l.drop (5 * i)).take 5
def nxA (g : List Int) (i : Nat) : Int := if i + 1 < g.length then at' g ((i + 1 : Nat) : Int) else 0
def imA (d : Int) (g : List Int) (l : List Rc) (i : Nat) : Int × List Int := (at' g (i : Int), padP (pgP d (nxA g i) (ptsA l i) (ptsA l i).length))
def putL (d : Int) (g : List Int) (l : List Rc) (i : Nat) : List (Int × List Int) := (List.range i).map (imA d g l)
theorem ptsA_len (l : List Rc) (i : Nat) : (ptsA l i).length = min 5 (l.length - 5 * i) := by simp [ptsA]
theorem ptsA_ok {l : List Rc} (hok : ∀ p ∈ l, okR p) (i : Nat) : ∀ p ∈ ptsA l i, okR p := fun p hp => hok p (List.mem_of_mem_drop (List.mem_of_mem_take hp))
theorem putL_s (d : Int) (g : List Int) (l : List Rc) (i : Nat) : (putL d g l (i + 1)).map imR = (putL d g l i).map imR ++ [imR (imA d g l i)] := by unfold putL; rw [List.range_succ]; simp
theorem putL_len (d : Int) (g : List Int) (l : List Rc) (i : Nat) : (putL d g l i).length = i := by simp [putL]
theorem cut_a (l : List Rc) (i : Nat) : (((l.drop (5 * i)).map rcC).take (min 5 (l.length - 5 * i))).drop 0 = (ptsA l i).map rcC := by
  rw [List.drop_zero, ← List.map_take]
  unfold ptsA
  congr 1
  rw [List.take_eq_take_iff]; simp
theorem cut_b (l : List Rc) (i : Nat) : (((l.drop (5 * i)).map rcC).take ((l.drop (5 * i)).map rcC).length).drop (min 5 (l.length - 5 * i)) = (l.drop (5 * (i + 1))).map rcC := by
  rw [List.take_length, ← List.map_drop, List.drop_drop]
  congr 1
  rcases Nat.lt_or_ge (l.length) (5 * i + 5) with h | h
  · rw [List.drop_eq_nil_of_le (by omega), List.drop_eq_nil_of_le (by omega)]
  · rw [show 5 * i + min 5 (l.length - 5 * i) = 5 * (i + 1) by omega]
theorem nxA_1 {g : List Int} {i : Nat} (h : (i : Int) + 1 < g.length) : nxA g i = at' g ((i : Int) + 1) := by unfold nxA; rw [if_pos (by omega)]; rfl
theorem nxA_0 {g : List Int} {i : Nat} (h : ¬ (i : Int) + 1 < g.length) : nxA g i = 0 := by unfold nxA; rw [if_neg (by omega)]
theorem im_fill0 {m_ : Int} {v0 : V} {z cs : List V} (hz : z.length = 224) (h : cs.length = 224) : fillV (fun (i : Nat) => ([(0, 1), (1, 224)] : List (Nat × Nat))[i]?) (v0 :: z) [(0, V.sc (.int .i64 m_)), (1, V.agg cs)] = some (V.sc (.int .i64 m_) :: cs) := by
  have e1 : setSeg (v0 :: z) 0 [V.sc (.int .i64 m_)] = V.sc (.int .i64 m_) :: z := by simp [setSeg]
  have e2 : setSeg (V.sc (.int .i64 m_) :: z) 1 cs = V.sc (.int .i64 m_) :: cs := by
    unfold setSeg
    rw [List.drop_eq_nil_of_le (by simp only [List.length_cons]; omega)]
    simp
  simp only [fillV, List.getElem?_cons_zero, List.getElem?_cons_succ, V.cs, V.stor, oneV]
  rw [if_pos (by simp), e1, if_pos (by simp [h, hz]), e2]
theorem im_fill {m_ : Int} {cs : List V} (h : cs.length = 224) : fillV (fun (i : Nat) => ([(0, 1), (1, 224)] : List (Nat × Nat))[i]?) ((Value.int .i64 0 :: List.replicate 224 (.int .u8 0)).map V.sc) [(0, V.sc (.int .i64 m_)), (1, V.agg cs)] = some (V.sc (.int .i64 m_) :: cs) :=
  im_fill0 (by rw [List.length_map, List.length_replicate]) h

theorem imA_len {l : List Rc} (hok : ∀ p ∈ l, okR p) (d : Int) (g : List Int) (i : Nat) : (padP (pgP d (nxA g i) (ptsA l i) (ptsA l i).length)).length = 224 := padP_len (by rw [pgP_len _ _ (ptsA_ok hok i) (Nat.le_refl _)]; have := ptsA_len l i; omega)
set_option maxRecDepth 100000 in
set_option maxHeartbeats 4000000 in
theorem put_c (d : Int) (g : List Int) (l : List Rc) (hg : g.length ≤ 1000) (hl : l.length ≤ 1000) (hok : ∀ p ∈ l, okR p) : Does Try.prog 16 [.agg (bkC d g l)] [] [] (.sl 225 ((putL d g l g.length).map imR)) := by
  refine does_mkg 40 Try.func16 rfl rfl rfl (fun n B bx hd hpre hup hvs hbx hgx => ?_)
  refine runs_seq ?_
  refine runs_region ?_
  refine rl1 (gn rfl) rfl rfl (step_box_agg (k := n + 0) rfl rfl) ⟨by repeat (first | exact uE | refine uN (by omega) ?_ | assumption | exact hd _ (by omega) | fail), trivial⟩ (by omega) ?_
  refine rl0 (gn rfl) rfl rfl (step_as rfl rfl) trivial ?_
  refine runsL_nil ?_
  refine runs_seq ?_
  refine runs_region ?_
  refine rl0 (gn rfl) rfl rfl (step_as rfl rfl) trivial ?_
  refine runsL_nil ?_
  refine runs_seq ?_
  refine runs_region ?_
  refine rl0 (gn rfl) rfl rfl (step_fieldAddr (off := 2) rfl (ev_mk rfl) Try.underlying29 rfl F.sz27 rfl) trivial ?_
  refine' rl0 (gn rfl) rfl rfl (step_load_one rfl (ev_mk rfl) F.one27 ?hv) ⟨?hb, trivial⟩ ?_
  case hb => repeat (first | exact uE | refine uN (by omega) ?_ | assumption | exact hd _ (by omega) | fail)
  case hv => rfl
  refine rl0 (gn rfl) rfl rfl (step_as rfl rfl) trivial ?_
  refine runsL_nil ?_
  refine runs_seq ?_
  refine runs_seq ?_
  refine runs_region ?_
  refine rl0 (gn rfl) rfl rfl (step_fieldAddr (off := 1) rfl (ev_mk rfl) Try.underlying29 rfl F.sz26 rfl) trivial ?_
  refine' rl0 (gn rfl) rfl rfl (step_load_one rfl (ev_mk rfl) F.one26 ?hv) ⟨?hb, trivial⟩ ?_
  case hb => repeat (first | exact uE | refine uN (by omega) ?_ | assumption | exact hd _ (by omega) | fail)
  case hv => rfl
  refine rl0 (gn rfl) rfl rfl (step_len (m := g.length) rfl rfl (ev_mk rfl) (.inl ⟨⟨_, Try.underlying26⟩, .inl ⟨_, _, .inl rfl, List.length_map _⟩⟩)) trivial ?_
  refine rl0 (gn rfl) rfl rfl (step_mv rfl rfl) trivial ?_
  refine runsL_nil ?_
  refine runs_block ?_
  refine runs_grow (l' := []) (d := 3) (k := n + 1) (e := 225) (xs := []) rfl (.inr ⟨rfl, rfl⟩) (by repeat (first | exact uE | refine uN (by omega) ?_ | assumption | exact hd _ (by omega) | fail)) (by omega) ?_
  have hs0_ : [] = ((putL d g l 0).map imR) := by rfl
  have hs1_ : (l.map rcC) = ((l.drop (5 * 0)).map rcC) := by simp
  refine runs_loop (fun (ri_ : Nat) (st_ : Go.Vm.S) => ∃ (i : Nat) (m0 : Nat) (b0 : Nat → Box), (st_ = ⟨mk [(1, .ref (n + 0) 0), (2, .sc (.slice none 0 0)), (3, .own 225 ((putL d g l i).map imR) (n + 1)), (4, .sl 6 ((l.drop (5 * i)).map rcC)), (12, .sl 1 (g.map iR)), (13, .sc (.int .i64 g.length)), (14, .sc (.int .i64 (i : Int)))], m0, b0⟩) ∧ (ri_ = 1 + (g.length - i)) ∧ (n + 2 ≤ m0) ∧ (∀ k_, k_ < n → b0 k_ = bx k_) ∧ (b0 (n + 0) = .cells [.sc (.int .i64 d), .sl 1 (g.map iR), .sl 6 (l.map rcC)]) ∧ (b0 (n + 1) = .tail ((putL d g l i).map imR).length) ∧ (i ≤ g.length)) (1 + (g.length - 0)) ⟨_, sle ?_ (Nat.le_refl _), 0, _, _, rfl, rfl, ?_⟩ ?_
  · (repeat' (first | exact trivial | refine ⟨⟨_, rfl, ?_⟩, ?_⟩ | fail)); all_goals (repeat' (first | exact VLe.refl _ | exact VLe.own_sl _ _ _ | exact VLe.fl_sl _ _ | exact VLe.nil_sl _ | exact VLe.nil_fl _ | exact VLes.refl _ | exact .nil | refine VLe.tup ?_ | refine VLe.agg ?_ | refine .cons ?_ ?_ | (rw [Int.natCast_add]; exact VLe.refl _) | exact vle_int (by omega) | exact vle_bool (by first | rfl | assumption | (simp_all; done) | fail) | (rw [← hs0_]; exact VLe.refl _) | (rw [hs0_]; exact VLe.refl _) | (rw [← hs1_]; exact VLe.refl _) | (rw [hs1_]; exact VLe.refl _) | fail))
  · exact ⟨by omega, (fun k_ hk_ => by repeat (first | exact rfl | refine uN (by omega) ?_ | assumption | fail)), by first | ((repeat (first | exact uE | assumption | refine uN (by omega) ?_ | fail)); done) | exact tl_eq (by repeat (first | exact uE | assumption | refine uN (by omega) ?_ | fail)) (by first | rfl | (rw [← hq0_]; simp; done) | (rw [hq0_]; done) | (simp [putL]; done)) | (rw [← hs0_]; (repeat (first | exact uE | assumption | refine uN (by omega) ?_ | fail)); done) | (rw [← hs1_]; (repeat (first | exact uE | assumption | refine uN (by omega) ?_ | fail)); done) | (rw [← hs0_, ← hs1_]; (repeat (first | exact uE | assumption | refine uN (by omega) ?_ | fail)); done), by first | ((repeat (first | exact uE | assumption | refine uN (by omega) ?_ | fail)); done) | exact tl_eq (by repeat (first | exact uE | assumption | refine uN (by omega) ?_ | fail)) (by first | rfl | (rw [← hq0_]; simp; done) | (rw [hq0_]; done) | (simp [putL]; done)) | (rw [← hs0_]; (repeat (first | exact uE | assumption | refine uN (by omega) ?_ | fail)); done) | (rw [← hs1_]; (repeat (first | exact uE | assumption | refine uN (by omega) ?_ | fail)); done) | (rw [← hs0_, ← hs1_]; (repeat (first | exact uE | assumption | refine uN (by omega) ?_ | fail)); done), by omega⟩
  · rintro _ _ ⟨i, m0, b0, rfl, rfl, hm0, hf0, hB0_0, hB0_1, hF0_0⟩
    refine runs_know (fun hd0 => ?_)
    refine runs_bump 20 ?_
    simp only at hd0
    refine runs_seq ?_
    refine runs_region ?_
    refine rl_lss (gn rfl) rfl rfl rfl rfl rfl (fun h1 => ?_) (fun h1 => ?_)
    · skip
      refine runsL_nil ?_
      refine runs_seq ?_
      refine runs_cond true (ev_mk rfl) (fun _ => ?_) (fun h_ => nomatch h_)
      refine runs_skip ?_
      refine runs_seq ?_
      refine runs_block ?_
      refine runs_seq ?_
      refine runs_region ?_
      refine rl0 (gn rfl) rfl rfl (step_mv rfl rfl) trivial ?_
      refine' rl0 (gn rfl) rfl rfl (step_index rfl (ev_mk rfl) (.inl rfl) (ev_mk rfl) Try.underlying26 F.sz3 (by omega) ?hr) trivial ?_
      case hr => exact map_at _ _ _ (by omega) (by omega)
      refine rl0 (gn rfl) rfl rfl (step_load_ro rfl (ev_mk rfl) F.one3 rfl) trivial ?_
      refine rl0 (gn rfl) rfl rfl (step_as rfl rfl) trivial ?_
      refine rl0 (gn rfl) rfl rfl (step_as rfl rfl) trivial ?_
      refine runsL_nil ?_
      refine runs_seq ?_
      refine runs_region ?_
      refine rl0 (gn rfl) rfl rfl (step_as rfl rfl) trivial ?_
      refine runsL_nil ?_
      refine runs_seq ?_
      refine runs_seq ?_
      refine runs_region ?_
      refine rl0 (gn rfl) rfl rfl (step_mv rfl rfl) trivial ?_
      refine rl0 (gn rfl) rfl rfl (step_add rfl (ev_mk rfl) (ev_mk rfl) (w64 (by omega))) trivial ?_
      refine rl0 (gn rfl) rfl rfl (step_fieldAddr (off := 1) rfl (ev_mk rfl) Try.underlying29 rfl F.sz26 rfl) trivial ?_
      refine' rl0 (gn rfl) rfl rfl (step_load_one rfl (ev_mk rfl) F.one26 ?hv) ⟨?hb, trivial⟩ ?_
      case hb => repeat (first | exact uE | refine uN (by omega) ?_ | assumption | exact hd _ (by omega) | exact hd0 _ (by omega) | fail)
      case hv => rfl
      refine rl0 (gn rfl) rfl rfl (step_len (m := g.length) rfl rfl (ev_mk rfl) (.inl ⟨⟨_, Try.underlying26⟩, .inl ⟨_, _, .inl rfl, List.length_map _⟩⟩)) trivial ?_
      refine rl_lss (gn rfl) rfl rfl rfl rfl rfl (fun h2 => ?_) (fun h2 => ?_)
      · skip
        have hnx_ := nxA_1 (g := g) (i := i) (by omega)
        refine runsL_nil ?_
        refine runs_cond true (ev_mk rfl) (fun _ => ?_) (fun h_ => nomatch h_)
        refine runs_region ?_
        refine rl0 (gn rfl) rfl rfl (step_fieldAddr (off := 1) rfl (ev_mk rfl) Try.underlying29 rfl F.sz26 rfl) trivial ?_
        refine' rl0 (gn rfl) rfl rfl (step_load_one rfl (ev_mk rfl) F.one26 ?hv) ⟨?hb, trivial⟩ ?_
        case hb => repeat (first | exact uE | refine uN (by omega) ?_ | assumption | exact hd _ (by omega) | exact hd0 _ (by omega) | fail)
        case hv => rfl
        refine rl0 (gn rfl) rfl rfl (step_mv rfl rfl) trivial ?_
        refine rl0 (gn rfl) rfl rfl (step_add rfl (ev_mk rfl) (ev_mk rfl) (w64 (by omega))) trivial ?_
        refine' rl0 (gn rfl) rfl rfl (step_index rfl (ev_mk rfl) (.inl rfl) (ev_mk rfl) Try.underlying26 F.sz3 (by omega) ?hr) trivial ?_
        case hr => exact map_at _ _ _ (by omega) (by omega)
        refine rl0 (gn rfl) rfl rfl (step_load_ro rfl (ev_mk rfl) F.one3 rfl) trivial ?_
        refine rl0 (gn rfl) rfl rfl (step_as rfl rfl) trivial ?_
        refine runsL_nil ?_
        refine runs_seq ?_
        refine runs_region ?_
        refine rl0 (gn rfl) rfl rfl (step_mv rfl rfl) trivial ?_
        refine rl0 (gn rfl) rfl rfl (step_len (m := (l.length - 5 * i)) rfl rfl (ev_mk rfl) (.inl ⟨⟨_, Try.underlying27⟩, .inl ⟨_, _, .inl rfl, by simp⟩⟩)) trivial ?_
        refine rl0 (gn rfl) rfl rfl (step_minr (r := ((min 5 (l.length - 5 * i)) : Nat)) rfl (ev_mk rfl) (ev_mk rfl) (by split <;> omega)) trivial ?_
        refine rl0 (gn rfl) rfl rfl (step_as rfl rfl) trivial ?_
        refine runsL_nil ?_
        refine runs_seq ?_
        refine runs_draw (by kernel_rfl) (by kernel_rfl) (by kernel_rfl) ?_
        have hpl_ := putL_len d g l i
        refine dl0 (gn rfl) rfl rfl (step_mv rfl rfl) trivial ?_
        refine dl0 (gn rfl) rfl rfl (step_mv rfl rfl) trivial ?_
        refine dl0 (gn rfl) rfl rfl (step_fieldAddr (off := 0) rfl (ev_mk rfl) Try.underlying29 rfl F.sz3 rfl) trivial ?_
        refine' dl0 (gn rfl) rfl rfl (step_load_one rfl (ev_mk rfl) F.one3 ?hv) ⟨?hb, trivial⟩ ?_
        case hb => repeat (first | exact uE | refine uN (by omega) ?_ | assumption | exact hd _ (by omega) | exact hd0 _ (by omega) | fail)
        case hv => rfl
        refine dl0 (gn rfl) rfl rfl (step_mv rfl rfl) trivial ?_
        refine dl0 (gn rfl) rfl rfl (step_mv rfl rfl) trivial ?_
        refine dl0 (gn rfl) rfl rfl (step_mv rfl rfl) trivial ?_
        refine dl0 (gn rfl) rfl rfl (step_mv rfl rfl) trivial ?_
        have hpa_ := ptsA_len l i
        have hia_ := imA_len hok d g i
        refine dl0 (gn rfl) rfl rfl (step_slice_full (ys := (ptsA l i).map rcC) (l := 0) (h := (min 5 (l.length - 5 * i))) rfl (ev_mk rfl) (.inl rfl) Try.underlying27 F.sz52 bndLo_none (bndHi_nat (a := (min 5 (l.length - 5 * i))) rfl (by first | omega | (split <;> omega) | (first | (simp; done) | (simp [imA, hia_]; done)))) (fun _ => (bndHi_nat (a := (min 5 (l.length - 5 * i))) rfl (by first | omega | (split <;> omega) | (first | (simp; done) | (simp [imA, hia_]; done))))) (fun h_ => by first | rfl | nomatch h_) (by first | omega | exact Nat.zero_le _ | (simp; omega) | (first | (simp; done) | (simp [imA, hia_]; done))) (by rw [List.length_map, List.length_drop]; omega) (cut_a l i)) trivial ?_
        refine dl0 (gn rfl) rfl rfl (step_callc rfl Try.func33 rfl rfl rfl (page_c d (at' g ((i : Int) + 1)) (ptsA l i) (by omega) (ptsA_ok hok i)) (by repeat (first | exact .nil | refine .cons ?_ ?_ | exact VLe.refl _ | exact VLe.own_sl _ _ _ | exact VLe.fl_sl _ _ | exact VLe.nil_sl _ | exact VLe.nil_fl _ | refine VLe.agg ?_))) trivial ?_
        refine dl0 (gn rfl) rfl rfl (step_build (ss := [1, 224]) (zs := ((.int .i64 0) :: List.replicate 224 (.int .u8 0))) (cs := imR (imA d g l i)) rfl Try.underlying41 (by kernel_rfl) F.zero41 rfl rfl (by (try unfold imA); (try rw [hnx_]); exact im_fill (by rw [List.length_map, ← hnx_]; exact hia_))) trivial ?_
        refine dl0 (gn rfl) rfl rfl (step_lit rfl Try.underlying37 F.sz41 F.zero41 (by first | rfl | simp) (by first | rfl | simp | decide) (by decide) rfl rfl (by first | (simp [V.cs, V.stor, oneV]; done) | ((simp only [V.cs, V.stor]; simp [imA, hia_]))) rfl) trivial ?_
        refine' dl1 (gn rfl) rfl rfl (step_append_own rfl rfl rfl Try.underlying37 ⟨_, Try.underlying37, fun k_ => by intro h_; cases h_⟩ F.el41 (ev_mk rfl) (ev_mk rfl) (gives_sl (.inr (.inl rfl))) ?hg) ⟨?hb, trivial⟩ (by omega) ?_
        case hb => repeat (first | exact uE | refine uN (by omega) ?_ | assumption | exact hd _ (by omega) | exact hd0 _ (by omega) | fail)
        case hg => first | (simp; omega) | (simp; done) | omega
        refine dl0 (gn rfl) rfl rfl (step_as rfl rfl) trivial ?_
        refine dlnil ?_ ?_
        · repeat' (first | exact trivial | exact .inr (ap0 _ _ _ _) | exact .inr (ap2 _ _ _ _) | exact .inr (ap3 _ _ _ _) | exact .inr ⟨by first | (simp; done) | (simp; omega), by first | (simp; done) | (simp; omega)⟩ | exact .inl (by kernel_rfl) | refine ⟨?_, ?_⟩ | fail)
        refine runs_region ?_
        refine rl0 (gn rfl) rfl rfl (step_mv rfl rfl) trivial ?_
        refine rl0 (gn rfl) rfl rfl (step_mv rfl rfl) trivial ?_
        refine rl0 (gn rfl) rfl rfl (step_slice (ys := (l.drop (5 * (i + 1))).map rcC) (l := (min 5 (l.length - 5 * i))) (h := ((l.drop (5 * i)).map rcC).length) rfl (ev_mk rfl) (.inl rfl) Try.underlying27 F.sz52 (bndLo_nat (a := (min 5 (l.length - 5 * i))) rfl (by first | omega | (split <;> omega) | (first | (simp; done) | (simp [imA, hia_]; done)))) bndHi_none (by rw [List.length_map, List.length_drop]; omega) (by first | omega | (simp; omega) | (first | (simp; done) | (simp [imA, hia_]; done))) (cut_b l i)) trivial ?_
        refine rl0 (gn rfl) rfl rfl (step_as rfl rfl) trivial ?_
        refine runsL_nil ?_
        refine runs_region ?_
        refine rl0 (gn rfl) rfl rfl (step_add rfl (ev_mk rfl) (ev_mk rfl) (w64 (by omega))) trivial ?_
        refine rl0 (gn rfl) rfl rfl (step_mv rfl rfl) trivial ?_
        refine runsL_nil ?_
        have hq0_ : ((putL d g l i).map imR) ++ [(V.sc (.int .i64 (imA d g l i).1) :: (imA d g l i).2.map bV)] = ((putL d g l (i + 1)).map imR) := by (rw [putL_s])
        refine ⟨_, _, ?_, sle ?_ (Nat.le_refl _), (i + 1), _, _, rfl, rfl, by omega, (fun k_ hk_ => by repeat (first | exact hf0 k_ hk_ | refine uN (by first | assumption | omega) ?_ | fail)), by first | ((repeat (first | exact uE | assumption | refine uN (by omega) ?_ | fail)); done) | exact tl_eq (by repeat (first | exact uE | assumption | refine uN (by omega) ?_ | fail)) (by first | rfl | (rw [← hq0_]; simp; done) | (rw [hq0_]; done) | (simp [putL]; done)) | (rw [← hq0_]; (repeat (first | exact uE | assumption | refine uN (by omega) ?_ | fail)); done), by first | ((repeat (first | exact uE | assumption | refine uN (by omega) ?_ | fail)); done) | exact tl_eq (by repeat (first | exact uE | assumption | refine uN (by omega) ?_ | fail)) (by first | rfl | (rw [← hq0_]; simp; done) | (rw [hq0_]; done) | (simp [putL]; done)) | (rw [← hq0_]; (repeat (first | exact uE | assumption | refine uN (by omega) ?_ | fail)); done), by omega⟩
        · omega
        · (repeat' (first | exact trivial | refine ⟨⟨_, rfl, ?_⟩, ?_⟩ | fail)); all_goals (repeat' (first | exact VLe.refl _ | exact VLe.own_sl _ _ _ | exact VLe.fl_sl _ _ | exact VLe.nil_sl _ | exact VLe.nil_fl _ | exact VLes.refl _ | exact .nil | refine VLe.tup ?_ | refine VLe.agg ?_ | refine .cons ?_ ?_ | (rw [Int.natCast_add]; exact VLe.refl _) | exact vle_int (by omega) | exact vle_bool (by first | rfl | assumption | (simp_all; done) | fail) | (rw [← hq0_]; exact VLe.refl _) | (rw [hq0_]; exact VLe.refl _) | fail))
      · skip
        have hnx_ := nxA_0 (g := g) (i := i) (by omega)
        refine runsL_nil ?_
        refine runs_cond false (ev_mk rfl) (fun h_ => nomatch h_) (fun _ => ?_)
        refine runs_skip ?_
        refine runs_seq ?_
        refine runs_region ?_
        refine rl0 (gn rfl) rfl rfl (step_mv rfl rfl) trivial ?_
        refine rl0 (gn rfl) rfl rfl (step_len (m := (l.length - 5 * i)) rfl rfl (ev_mk rfl) (.inl ⟨⟨_, Try.underlying27⟩, .inl ⟨_, _, .inl rfl, by simp⟩⟩)) trivial ?_
        refine rl0 (gn rfl) rfl rfl (step_minr (r := ((min 5 (l.length - 5 * i)) : Nat)) rfl (ev_mk rfl) (ev_mk rfl) (by split <;> omega)) trivial ?_
        refine rl0 (gn rfl) rfl rfl (step_as rfl rfl) trivial ?_
        refine runsL_nil ?_
        refine runs_seq ?_
        refine runs_draw (by kernel_rfl) (by kernel_rfl) (by kernel_rfl) ?_
        have hpl_ := putL_len d g l i
        refine dl0 (gn rfl) rfl rfl (step_mv rfl rfl) trivial ?_
        refine dl0 (gn rfl) rfl rfl (step_mv rfl rfl) trivial ?_
        refine dl0 (gn rfl) rfl rfl (step_fieldAddr (off := 0) rfl (ev_mk rfl) Try.underlying29 rfl F.sz3 rfl) trivial ?_
        refine' dl0 (gn rfl) rfl rfl (step_load_one rfl (ev_mk rfl) F.one3 ?hv) ⟨?hb, trivial⟩ ?_
        case hb => repeat (first | exact uE | refine uN (by omega) ?_ | assumption | exact hd _ (by omega) | exact hd0 _ (by omega) | fail)
        case hv => rfl
        refine dl0 (gn rfl) rfl rfl (step_mv rfl rfl) trivial ?_
        refine dl0 (gn rfl) rfl rfl (step_mv rfl rfl) trivial ?_
        refine dl0 (gn rfl) rfl rfl (step_mv rfl rfl) trivial ?_
        refine dl0 (gn rfl) rfl rfl (step_mv rfl rfl) trivial ?_
        have hpa_ := ptsA_len l i
        have hia_ := imA_len hok d g i
        refine dl0 (gn rfl) rfl rfl (step_slice_full (ys := (ptsA l i).map rcC) (l := 0) (h := (min 5 (l.length - 5 * i))) rfl (ev_mk rfl) (.inl rfl) Try.underlying27 F.sz52 bndLo_none (bndHi_nat (a := (min 5 (l.length - 5 * i))) rfl (by first | omega | (split <;> omega) | (first | (simp; done) | (simp [imA, hia_]; done)))) (fun _ => (bndHi_nat (a := (min 5 (l.length - 5 * i))) rfl (by first | omega | (split <;> omega) | (first | (simp; done) | (simp [imA, hia_]; done))))) (fun h_ => by first | rfl | nomatch h_) (by first | omega | exact Nat.zero_le _ | (simp; omega) | (first | (simp; done) | (simp [imA, hia_]; done))) (by rw [List.length_map, List.length_drop]; omega) (cut_a l i)) trivial ?_
        refine dl0 (gn rfl) rfl rfl (step_callc rfl Try.func33 rfl rfl rfl (page_c d 0 (ptsA l i) (by omega) (ptsA_ok hok i)) (by repeat (first | exact .nil | refine .cons ?_ ?_ | exact VLe.refl _ | exact VLe.own_sl _ _ _ | exact VLe.fl_sl _ _ | exact VLe.nil_sl _ | exact VLe.nil_fl _ | refine VLe.agg ?_))) trivial ?_
        refine dl0 (gn rfl) rfl rfl (step_build (ss := [1, 224]) (zs := ((.int .i64 0) :: List.replicate 224 (.int .u8 0))) (cs := imR (imA d g l i)) rfl Try.underlying41 (by kernel_rfl) F.zero41 rfl rfl (by (try unfold imA); (try rw [hnx_]); exact im_fill (by rw [List.length_map, ← hnx_]; exact hia_))) trivial ?_
        refine dl0 (gn rfl) rfl rfl (step_lit rfl Try.underlying37 F.sz41 F.zero41 (by first | rfl | simp) (by first | rfl | simp | decide) (by decide) rfl rfl (by first | (simp [V.cs, V.stor, oneV]; done) | ((simp only [V.cs, V.stor]; simp [imA, hia_]))) rfl) trivial ?_
        refine' dl1 (gn rfl) rfl rfl (step_append_own rfl rfl rfl Try.underlying37 ⟨_, Try.underlying37, fun k_ => by intro h_; cases h_⟩ F.el41 (ev_mk rfl) (ev_mk rfl) (gives_sl (.inr (.inl rfl))) ?hg) ⟨?hb, trivial⟩ (by omega) ?_
        case hb => repeat (first | exact uE | refine uN (by omega) ?_ | assumption | exact hd _ (by omega) | exact hd0 _ (by omega) | fail)
        case hg => first | (simp; omega) | (simp; done) | omega
        refine dl0 (gn rfl) rfl rfl (step_as rfl rfl) trivial ?_
        refine dlnil ?_ ?_
        · repeat' (first | exact trivial | exact .inr (ap0 _ _ _ _) | exact .inr (ap2 _ _ _ _) | exact .inr (ap3 _ _ _ _) | exact .inr ⟨by first | (simp; done) | (simp; omega), by first | (simp; done) | (simp; omega)⟩ | exact .inl (by kernel_rfl) | refine ⟨?_, ?_⟩ | fail)
        refine runs_region ?_
        refine rl0 (gn rfl) rfl rfl (step_mv rfl rfl) trivial ?_
        refine rl0 (gn rfl) rfl rfl (step_mv rfl rfl) trivial ?_
        refine rl0 (gn rfl) rfl rfl (step_slice (ys := (l.drop (5 * (i + 1))).map rcC) (l := (min 5 (l.length - 5 * i))) (h := ((l.drop (5 * i)).map rcC).length) rfl (ev_mk rfl) (.inl rfl) Try.underlying27 F.sz52 (bndLo_nat (a := (min 5 (l.length - 5 * i))) rfl (by first | omega | (split <;> omega) | (first | (simp; done) | (simp [imA, hia_]; done)))) bndHi_none (by rw [List.length_map, List.length_drop]; omega) (by first | omega | (simp; omega) | (first | (simp; done) | (simp [imA, hia_]; done))) (cut_b l i)) trivial ?_
        refine rl0 (gn rfl) rfl rfl (step_as rfl rfl) trivial ?_
        refine runsL_nil ?_
        refine runs_region ?_
        refine rl0 (gn rfl) rfl rfl (step_add rfl (ev_mk rfl) (ev_mk rfl) (w64 (by omega))) trivial ?_
        refine rl0 (gn rfl) rfl rfl (step_mv rfl rfl) trivial ?_
        refine runsL_nil ?_
        have hq0_ : ((putL d g l i).map imR) ++ [(V.sc (.int .i64 (imA d g l i).1) :: (imA d g l i).2.map bV)] = ((putL d g l (i + 1)).map imR) := by (rw [putL_s])
        refine ⟨_, _, ?_, sle ?_ (Nat.le_refl _), (i + 1), _, _, rfl, rfl, by omega, (fun k_ hk_ => by repeat (first | exact hf0 k_ hk_ | refine uN (by first | assumption | omega) ?_ | fail)), by first | ((repeat (first | exact uE | assumption | refine uN (by omega) ?_ | fail)); done) | exact tl_eq (by repeat (first | exact uE | assumption | refine uN (by omega) ?_ | fail)) (by first | rfl | (rw [← hq0_]; simp; done) | (rw [hq0_]; done) | (simp [putL]; done)) | (rw [← hq0_]; (repeat (first | exact uE | assumption | refine uN (by omega) ?_ | fail)); done), by first | ((repeat (first | exact uE | assumption | refine uN (by omega) ?_ | fail)); done) | exact tl_eq (by repeat (first | exact uE | assumption | refine uN (by omega) ?_ | fail)) (by first | rfl | (rw [← hq0_]; simp; done) | (rw [hq0_]; done) | (simp [putL]; done)) | (rw [← hq0_]; (repeat (first | exact uE | assumption | refine uN (by omega) ?_ | fail)); done), by omega⟩
        · omega
        · (repeat' (first | exact trivial | refine ⟨⟨_, rfl, ?_⟩, ?_⟩ | fail)); all_goals (repeat' (first | exact VLe.refl _ | exact VLe.own_sl _ _ _ | exact VLe.fl_sl _ _ | exact VLe.nil_sl _ | exact VLe.nil_fl _ | exact VLes.refl _ | exact .nil | refine VLe.tup ?_ | refine VLe.agg ?_ | refine .cons ?_ ?_ | (rw [Int.natCast_add]; exact VLe.refl _) | exact vle_int (by omega) | exact vle_bool (by first | rfl | assumption | (simp_all; done) | fail) | (rw [← hq0_]; exact VLe.refl _) | (rw [hq0_]; exact VLe.refl _) | fail))
    · skip
      obtain rfl : i = g.length := by omega
      refine runsL_nil ?_
      refine runs_seq ?_
      refine runs_cond false (ev_mk rfl) (fun h_ => nomatch h_) (fun _ => ?_)
      refine runs_exit ?_
      refine runs_seq ?_
      refine runs_region ?_
      refine rl0 (gn rfl) rfl rfl (step_mv rfl rfl) trivial ?_
      refine rl0 (gn rfl) rfl rfl (step_as rfl rfl) trivial ?_
      refine runsL_nil ?_
      refine runs_ret ?_
      refine ⟨by first | exact .inr rfl | exact .inl rfl, fin_mkg (rest rfl res0) ?_ ?_ ?_ ?_ ?_⟩
      · (repeat' (first | exact VLe.refl _ | exact VLe.own_sl _ _ _ | exact VLe.fl_sl _ _ | exact VLe.nil_sl _ | exact VLe.nil_fl _ | exact VLes.refl _ | exact .nil | refine VLe.tup ?_ | refine VLe.agg ?_ | refine .cons ?_ ?_ | (rw [Int.natCast_add]; exact VLe.refl _) | exact vle_int (by omega) | exact vle_bool (by first | rfl | assumption | (simp_all; done) | fail) | fail))
      · repeat (first | exact trivial | assumption | omega | (refine bdR_map (fun _ => ?_)) | (refine bdL_map (fun _ => ?_)) | refine ⟨?_, ?_⟩ | fail)
      · intro k_ hk_; exact ble (by repeat (first | exact rfl | refine uN (by omega) ?_ | assumption | exact hf0 _ (by omega) | fail))
      · intro p hp; cases hp
      · repeat (first | exact trivial | assumption | omega | (refine bdR_map (fun _ => ?_)) | (refine bdL_map (fun _ => ?_)) | refine ⟨?_, ?_⟩ | fail)
end Go.Proofs.Ytldlmmpniddbcaa
