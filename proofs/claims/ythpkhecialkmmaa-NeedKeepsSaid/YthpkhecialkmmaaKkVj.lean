import Derived.Test.YthpkhecialkmmaaKkQq
import Derived.Test.YthpkhecialkmmaaKkVmT
import Derived.Test.YthpkhecialkmmaaKkVmP
import Derived.Test.YthpkhecialkmmaaKkVmV
import Derived.Test.YthpkhecialkmmaaKkVmO
import Derived.Test.YthpkhecialkmmaaKkVa
import Derived.Test.YthpkhecialkmmaaKkVb
import Derived.Test.YthpkhecialkmmaaKkVc
import Derived.Test.YthpkhecialkmmaaKkVd
import Derived.Test.YthpkhecialkmmaaKkVf
import Derived.Test.YthpkhecialkmmaaKkVh
import Derived.Test.YthpkhecialkmmaaKkVi
namespace Go.Proofs.Ythpkhecialkmmaa
open Go.Vm
set_option linter.unusedVariables false
set_option linter.unusedSimpArgs false
def badW (x y : Wt) : Bool := decide (x.k = y.k ∧ x.n = y.n) && !tgF x.m y.m
def apF (l m : List Wt) : Bool := l.all fun x => m.all fun y => !badW x y
theorem all_first {α : Type} {p : α → Bool} : ∀ {l : List α}, l.all p = false → ∃ (i : Nat) (x : α), l[i]? = some x ∧ p x = false ∧ ∀ (j : Nat) x', j < i → l[j]? = some x' → p x' = true
  | [], h => by simp at h
  | a :: l, h => by
    cases ha : p a with
    | false => exact ⟨0, a, rfl, ha, fun j x' hj => absurd hj (Nat.not_lt_zero j)⟩
    | true =>
      have h' : l.all p = false := by simpa [ha] using h
      obtain ⟨i, x, h1, h2, h3⟩ := all_first h'
      refine ⟨i + 1, x, by simpa using h1, h2, fun j x' hj hx => ?_⟩
      cases j with
      | zero => simp at hx; subst hx; exact ha
      | succ j => exact h3 j x' (by omega) (by simpa using hx)
theorem all_at {α : Type} {p : α → Bool} {l : List α} (h : l.all p = true) {i : Nat} {x : α} (hx : l[i]? = some x) : p x = true := List.all_eq_true.1 h x (List.mem_of_getElem? hx)
theorem bad_ne {x y : Wt} (h : (!badW x y) = true) (h2 : x.k = y.k ∧ x.n = y.n) : tgF x.m y.m = true := by
  unfold badW at h; rw [decide_eq_true h2] at h; simpa using h
theorem bad_yes {x y : Wt} (h : (!badW x y) = false) : (x.k = y.k ∧ x.n = y.n) ∧ tgF x.m y.m = false := by
  unfold badW at h; simpa using h
theorem shape39 : shapeOf Try.prog 3 39 = some [CK.i .i64, CK.i .u64] := by kernel_rfl
theorem eqg39 : Try.prog.eqGuardType Try.prog.depth 39 = false := by kernel_rfl
def rsV (k n : Int) : List Value := [.int .i64 k, .int .u64 n]
theorem rs_eq {a b c d : Int} : eqCs (rsV a b) (rsV c d) = true ↔ a = c ∧ b = d := by simp [rsV, eqCs, eqC]
theorem step_eql39 {o : Oper} {t : Nat → V} {x y : Operand} {a b c d : Int} {ty2 : TypeId} (ho : o.op = .binOp .eql 39 x y ty2) (hx : ev t x = .agg [.sc (.int .i64 a), .sc (.int .u64 b)]) (hy : ev t y = .agg [.sc (.int .i64 c), .sc (.int .u64 d)]) : StepOK Try.prog o t [] [] (.sc (.bool (eqCs (rsV a b) (rsV c d)))) :=
  step_eq_agg (xs := rsV a b) (ys := rsV c d) ho hx hy shape39 (by omega) ⟨_, Try.underlying39, rfl⟩ eqg39 rfl rfl (.inl ⟨rfl, rfl⟩)
set_option maxRecDepth 100000 in
set_option maxHeartbeats 4000000 in
theorem ap_yes_20 (oa ob : Op1) (ra rb : Rc1) (ta tb : Bool) (hqra : ra = ⟨0, oa.key, 536870912, 0, ByteArray.empty, false⟩) (hqta : ta = decide (oa.key = 5)) (hqrb : rb = ⟨0, ob.key, 536870912, 0, ByteArray.empty, false⟩) (hqtb : tb = decide (ob.key = 5)) (hoa : OkO oa) (hob : OkO ob) (hra : OkR ra) (hrb : OkR rb) (hka : 0 ≤ oa.key) (hkb : 0 ≤ ob.key) (hap : apF (allL oa ra ta) (allL ob rb tb) = true) : Does Try.prog 16 [.agg (opC oa), .agg (opC ob), .sc (.func (.func 20) #[] #[])] [] [] (.sc (.bool true)) := by
  refine does_mkr 40 Try.func16 rfl rfl rfl (fun n B bx hd hpre hup hvs hbx hgx hO => ?_);refine runs_seq ?_;refine runs_region ?_;refine rl1 (gn rfl) rfl rfl (step_box_agg (k := n + 0) rfl rfl) ⟨t_0, trivial⟩ (by omega) ?_;refine rl1 (gn rfl) rfl rfl (step_box_agg (k := n + 1) rfl rfl) ⟨t_0, trivial⟩ (by omega) ?_;refine rl1 (gn rfl) rfl rfl (step_box_one (k := n + 2) rfl rfl rfl rfl) ⟨t_0, trivial⟩ (by omega) ?_;refine rl1 (gn rfl) rfl rfl (step_allocc (k := n + 3) (zs := [.bool false]) (cs := [.sc (.bool false)]) rfl F.zero4 t_23 t_25 t_23) ⟨t_0, trivial⟩ (by omega) ?_;refine runsL_nil ?_;refine runs_seq ?_;refine runs_seq ?_;refine runs_region ?_;refine' rl0 (gn rfl) rfl rfl (step_load_all rfl rfl F.agg27 ?hl) ⟨?hb, trivial⟩ ?_
  case hb => exact t_0
  case hl => exact t_4
  refine' rl0 (gn rfl) rfl rfl (step_load_one rfl (ev_mk rfl) F.one32 ?hv) ⟨?hb, trivial⟩ ?_
  case hb => exact t_0
  case hv => rfl
  refine rl2 (gn rfl) rfl rfl (step_callc rfl Try.func9 rfl rfl rfl (nall_20 oa (k2 := (n + 4)) (kf := (n + 5)) (by omega)) t_2) ⟨t_0, t_0, trivial⟩ (by omega) (by omega) ?_;refine runsL_nil ?_;refine runs_block ?_;refine runs_rangeL (f := 24) (caps := [.ref (n + 4) 0, .ref (n + 5) 0]) (xs := (allL oa ra ta).map enW) (Dl := []) (El := [(n + 4, .cells (opC oa), fun m_ b_ => .cells (opC oa)), (n + 5, .cells [.sc (.func (.func 20) #[] #[])], fun m_ b_ => .cells [.sc (.func (.func 20) #[] #[])])]) (kl := n + 6) (m := (allL oa ra ta).length) (brk := false) (ex := .normal) hO rfl (.inl rfl) Try.func24 rfl rfl (all_20 oa ra ta hqra hqta (by omega) hoa hra) trivial t_0 (by omega) (by simp) (fun h_ => nomatch h_) (fun _ => ⟨by simp, rfl⟩) (fun v_ hv_ => t_26) rfl trivial trivial ⟨⟨t_18, t_18, t_49⟩, ⟨t_18, t_18, t_49⟩, trivial⟩ (fun i60 => trivial) ⟨bdb_cells t_3, bdb_cells t_3, trivial⟩ ?_ ?_
  · intro i60 v60 hi60 hv60 B60 n60 lr60 bx60 hR60 hl60 hk60 ho60 he60 hn60 hd60 hD60 hfr60
    have hf60 : ∀ k_, k_ < _ → k_ ≠ n + 4 → k_ ≠ n + 5 → k_ ≠ n + 6 → bx60 k_ = _ := fun k_ a_ e0_ e1_ e2_ => hfr60 k_ a_ ⟨e0_, e1_, trivial⟩ e2_
    have hc60_0 : bx60 (n + 0) = .cells [.sc (.int .i64 oa.k), .sc (.int .u64 oa.key), .sc (.int .u32 oa.x), .sc (.int .u32 oa.y), .sc (.string oa.v), .sc (.int .u32 oa.a), .sc (.int .u32 oa.b), .sc (.int .u32 oa.c), .sc (.int .u32 oa.d), .sc (.int .i64 oa.n)] := (hf60 _ (by omega) (by omega) (by omega) (by omega)).trans t_0
    have hc60_1 : bx60 (n + 1) = .cells [.sc (.int .i64 ob.k), .sc (.int .u64 ob.key), .sc (.int .u32 ob.x), .sc (.int .u32 ob.y), .sc (.string ob.v), .sc (.int .u32 ob.a), .sc (.int .u32 ob.b), .sc (.int .u32 ob.c), .sc (.int .u32 ob.d), .sc (.int .i64 ob.n)] := (hf60 _ (by omega) (by omega) (by omega) (by omega)).trans t_0
    have hc60_2 : bx60 (n + 2) = .cells [.sc (.func (.func 20) #[] #[])] := (hf60 _ (by omega) (by omega) (by omega) (by omega)).trans t_0
    have hc60_3 : bx60 (n + 3) = .cells [.sc (.bool false)] := (hf60 _ (by omega) (by omega) (by omega) (by omega)).trans t_0
    obtain ⟨t60, ht60, rfl⟩ := map_get hv60
    have hxa_ := al_ok hoa hra hka (List.mem_of_getElem? ht60)
    refine runs_keep (l' := [(12, .agg [.sc (.int .i64 t60.k), .sc (.int .u64 t60.n), .sc (.int .i64 t60.m)]), (4, .ref (n + 1) 0), (5, .ref (n + 2) 0), (6, .ref (n + 3) 0)]) ?_ ?_
    · exact t_43
    refine runs_bump 40 ?_;refine runs_region ?_;refine rl1 (gn rfl) rfl rfl (step_allocc (k := n60 + 0) (zs := [.int .i64 0, .int .u64 0, .int .i64 0]) (cs := [.sc (.int .i64 0), .sc (.int .u64 0), .sc (.int .i64 0)]) rfl F.zero41 t_23 t_25 t_23) ⟨t_8, trivial⟩ (by omega) ?_;refine' rls (gn rfl) rfl (step_storeA rfl rfl rfl rfl F.agg41 ?hm ?hl) ⟨?hb, trivial⟩ ?hk ?_
    case hb => exact t_8
    case hm => exact t_4
    case hl => exact t_4
    case hk => omega
    refine runsL_nil ?_;refine ⟨rfl, t_24, fun r60 => ?_⟩;show Runs _ _ _ _ ⟨mk _, _ + _, upd _ _ _⟩ _;refine runs_block ?_;refine runs_seq ?_;refine runs_region ?_;refine' rl0 (gn rfl) rfl rfl (step_load_all rfl rfl F.agg27 ?hl) ⟨?hb, trivial⟩ ?_
    case hb => exact t_8
    case hl => exact t_4
    refine' rl0 (gn rfl) rfl rfl (step_load_one rfl (ev_mk rfl) F.one32 ?hv) ⟨?hb, trivial⟩ ?_
    case hb => exact t_8
    case hv => rfl
    refine rl2 (gn rfl) rfl rfl (step_callc rfl Try.func9 rfl rfl rfl (nall_20 ob (k2 := (n60 + 1)) (kf := (n60 + 2)) (by omega)) t_2) ⟨t_8, t_8, trivial⟩ (by omega) (by omega) ?_;refine runsL_nil ?_;refine runs_block ?_;refine runs_rangeLR (k0 := n + 6) (f := 24) (caps := [.ref (n60 + 1) 0, .ref (n60 + 2) 0]) (xs := (allL ob rb tb).map enW) (Dl := []) (El := [(n60 + 1, .cells (opC ob), fun m_ b_ => .cells (opC ob)), (n60 + 2, .cells [.sc (.func (.func 20) #[] #[])], fun m_ b_ => .cells [.sc (.func (.func 20) #[] #[])])]) (kl := n60 + 3) (m := (allL ob rb tb).length) (brk := false) (ex := .normal) hR60 hl60 t_34 t_8 rfl (.inl rfl) Try.func24 rfl rfl (all_20 ob rb tb hqrb hqtb (by omega) hob hrb) trivial t_8 (by omega) (by simp) (fun h_ => nomatch h_) (fun _ => ⟨by simp, rfl⟩) (fun v_ hv_ => t_26) rfl trivial trivial ⟨⟨t_18, t_18, t_50⟩, ⟨t_18, t_18, t_50⟩, trivial⟩ (fun i61 => trivial) ⟨bdb_cells t_3, bdb_cells t_3, trivial⟩ ?_ ?_
    · intro i61 v61 hi61 hv61 B61 n61 lr61 bx61 hR61 hl61 hk61 ho61 he61 hn61 hd61 hD61 hfr61
      have hf61 : ∀ k_, k_ < _ → k_ ≠ n60 + 1 → k_ ≠ n60 + 2 → k_ ≠ n60 + 3 → bx61 k_ = _ := fun k_ a_ e0_ e1_ e2_ => hfr61 k_ a_ ⟨e0_, e1_, trivial⟩ e2_
      have hc61_0 : bx61 (n + 0) = .cells [.sc (.int .i64 oa.k), .sc (.int .u64 oa.key), .sc (.int .u32 oa.x), .sc (.int .u32 oa.y), .sc (.string oa.v), .sc (.int .u32 oa.a), .sc (.int .u32 oa.b), .sc (.int .u32 oa.c), .sc (.int .u32 oa.d), .sc (.int .i64 oa.n)] := (hf61 _ (by omega) (by omega) (by omega) (by omega)).trans t_8
      have hc61_1 : bx61 (n + 1) = .cells [.sc (.int .i64 ob.k), .sc (.int .u64 ob.key), .sc (.int .u32 ob.x), .sc (.int .u32 ob.y), .sc (.string ob.v), .sc (.int .u32 ob.a), .sc (.int .u32 ob.b), .sc (.int .u32 ob.c), .sc (.int .u32 ob.d), .sc (.int .i64 ob.n)] := (hf61 _ (by omega) (by omega) (by omega) (by omega)).trans t_8
      have hc61_2 : bx61 (n + 2) = .cells [.sc (.func (.func 20) #[] #[])] := (hf61 _ (by omega) (by omega) (by omega) (by omega)).trans t_8
      have hc61_3 : bx61 (n + 3) = .cells [.sc (.bool false)] := (hf61 _ (by omega) (by omega) (by omega) (by omega)).trans t_8
      have hc61_4 : bx61 (n60 + 0) = .cells [.sc (.int .i64 t60.k), .sc (.int .u64 t60.n), .sc (.int .i64 t60.m)] := (hf61 _ (by omega) (by omega) (by omega) (by omega)).trans t_8
      obtain ⟨t61, ht61, rfl⟩ := map_get hv61
      have hxb_ := al_ok hob hrb hkb (List.mem_of_getElem? ht61)
      refine runs_keep (l' := [(16, .agg [.sc (.int .i64 t61.k), .sc (.int .u64 t61.n), .sc (.int .i64 t61.m)]), (6, .ref (n + 3) 0), (7, .ref (n60 + 0) 0)]) ?_ ?_
      · exact t_43
      refine runs_bump 40 ?_;refine runs_region ?_;refine rl1 (gn rfl) rfl rfl (step_allocc (k := n61 + 0) (zs := [.int .i64 0, .int .u64 0, .int .i64 0]) (cs := [.sc (.int .i64 0), .sc (.int .u64 0), .sc (.int .i64 0)]) rfl F.zero41 t_23 t_25 t_23) ⟨t_9, trivial⟩ (by omega) ?_;refine' rls (gn rfl) rfl (step_storeA rfl rfl rfl rfl F.agg41 ?hm ?hl) ⟨?hb, trivial⟩ ?hk ?_
      case hb => exact t_9
      case hm => exact t_4
      case hl => exact t_4
      case hk => omega
      refine runsL_nil ?_;refine ⟨rfl, t_24, fun r61 => ?_⟩;show Runs _ _ _ _ ⟨mk _, _ + _, upd _ _ _⟩ _;refine runs_block ?_;refine runs_seq ?_;refine runs_region ?_;refine rl0 (gn rfl) rfl rfl (step_fieldAddr (off := 0) rfl (ev_mk rfl) Try.underlying41 rfl F.sz39 rfl) trivial ?_;refine' rl0 (gn rfl) rfl rfl (step_load_agg rfl (ev_mk rfl) F.agg39 ?hc ?hl) ⟨?hb, trivial⟩ ?_
      case hb => exact t_9
      case hc => rfl
      case hl => exact t_4
      refine rl0 (gn rfl) rfl rfl (step_fieldAddr (off := 0) rfl (ev_mk rfl) Try.underlying41 rfl F.sz39 rfl) trivial ?_;refine' rl0 (gn rfl) rfl rfl (step_load_agg rfl (ev_mk rfl) F.agg39 ?hc ?hl) ⟨?hb, trivial⟩ ?_
      case hb => exact t_9
      case hc => rfl
      case hl => exact t_4
      refine rl0 (gn rfl) rfl rfl (step_eql39 rfl (ev_mk rfl) (ev_mk rfl)) trivial ?_;refine rl0 (gn rfl) rfl rfl (step_mv rfl rfl) trivial ?_;refine rl_bool (d := 22) rfl (fun h1 => ?_) (fun h1 => ?_)
      · skip
        refine rl0 (gy rfl rfl rfl rfl rfl rfl) rfl rfl (step_fieldAddr (off := 2) rfl (ev_mk rfl) Try.underlying41 rfl F.sz3 rfl) trivial ?_;refine' rl0 (gy rfl rfl rfl rfl rfl rfl) rfl rfl (step_load_one rfl (ev_mk rfl) F.one3 ?hv) ⟨?hb, trivial⟩ ?_
        case hb => exact t_9
        case hv => rfl
        refine rl0 (gy rfl rfl rfl rfl rfl rfl) rfl rfl (step_fieldAddr (off := 2) rfl (ev_mk rfl) Try.underlying41 rfl F.sz3 rfl) trivial ?_;refine' rl0 (gy rfl rfl rfl rfl rfl rfl) rfl rfl (step_load_one rfl (ev_mk rfl) F.one3 ?hv) ⟨?hb, trivial⟩ ?_
        case hb => exact t_9
        case hv => rfl
        refine rl0 (gy rfl rfl rfl rfl rfl rfl) rfl rfl (step_callc rfl Try.func35 rfl rfl rfl (tog_c hxa_.2.2 hxb_.2.2) t_2) trivial ?_;refine rl_know (d := 27) (c := true) rfl (bad_ne (all_at (all_at hap ht60) ht61) (rs_eq.1 (by assumption))) ?_;refine rl0 (gy rfl rfl rfl rfl rfl rfl) rfl rfl (step_unOp (c := .bool false) rfl (ev_mk rfl) (fun _ => rfl)) trivial ?_;refine rl0 (gn rfl) rfl rfl (step_pick rfl (ev_mk rfl) (ev_mk rfl)) trivial ?_;refine runsL_nil ?_;refine runs_cond false (ev_mk rfl) (fun h_ => nomatch h_) (fun _ => ?_);refine runs_skip ?_;refine ⟨t_28, t_9, fun k_ hk_ hl_ => ?_⟩;simp only [dL, updL, List.map_cons, List.map_nil]; exact ble t_65
      · skip
        refine rlk rfl rfl rfl rfl rfl (ngb rfl rfl) rfl rfl ?_;refine rlk rfl rfl rfl rfl rfl (ngb rfl rfl) rfl rfl ?_;refine rlk rfl rfl rfl rfl rfl (ngb rfl rfl) rfl rfl ?_;refine rlk rfl rfl rfl rfl rfl (ngb rfl rfl) rfl rfl ?_;refine rlk rfl rfl rfl rfl rfl (ngb rfl rfl) rfl rfl ?_;refine rlk rfl rfl rfl rfl rfl (ngb rfl rfl) rfl rfl ?_;refine rl0 (gn rfl) rfl rfl (step_pick rfl (ev_mk rfl) (ev_mk rfl)) trivial ?_;refine runsL_nil ?_;refine runs_cond false (ev_mk rfl) (fun h_ => nomatch h_) (fun _ => ?_);refine runs_skip ?_;refine ⟨t_28, t_9, fun k_ hk_ hl_ => ?_⟩;simp only [dL, updL, List.map_cons, List.map_nil]; exact ble t_65
    · intro bb61 b61 hb61
      simp only [dL, eM, updL, List.map_cons, List.map_nil] at hb61
      subst hb61
      refine ⟨t_28, t_8, fun k_ hk_ hl_ => ?_⟩;simp only [dL, updL, List.map_cons, List.map_nil]; exact ble t_64
  · intro bb60 b60 hb60
    simp only [dL, eM, updL, List.map_cons, List.map_nil] at hb60
    subst hb60
    refine runs_seq ?_;refine runs_region ?_;refine' rls (gn rfl) rfl (step_store1 rfl rfl rfl rfl F.one4 rfl rfl ?hl ?hc) ⟨?hb, trivial⟩ ?hk ?_
    case hb => exact t_0
    case hl => exact t_22
    case hc => exact t_27
    case hk => omega
    refine runsL_nil ?_;refine runs_ret ?_;refine ⟨t_11, fin_mkg (resc1 rfl t_0 F.one4 rfl res0) ?_ ?_ ?_ ?_ ?_⟩
    · exact t_1
    · exact t_3
    · exact t_6
    · exact t_17
    · exact t_3
set_option maxRecDepth 100000 in
set_option maxHeartbeats 4000000 in
theorem ap_no_20 (oa ob : Op1) (ra rb : Rc1) (ta tb : Bool) (hqra : ra = ⟨0, oa.key, 536870912, 0, ByteArray.empty, false⟩) (hqta : ta = decide (oa.key = 5)) (hqrb : rb = ⟨0, ob.key, 536870912, 0, ByteArray.empty, false⟩) (hqtb : tb = decide (ob.key = 5)) (hoa : OkO oa) (hob : OkO ob) (hra : OkR ra) (hrb : OkR rb) (hka : 0 ≤ oa.key) (hkb : 0 ≤ ob.key) (hap : apF (allL oa ra ta) (allL ob rb tb) = false) : Does Try.prog 16 [.agg (opC oa), .agg (opC ob), .sc (.func (.func 20) #[] #[])] [] [] (.sc (.bool false)) := by
  refine does_mkr 40 Try.func16 rfl rfl rfl (fun n B bx hd hpre hup hvs hbx hgx hO => ?_);obtain ⟨i, x, hx, hbx_, hxlo⟩ := all_first hap;obtain ⟨j, y, hy, hby_, hylo⟩ := all_first hbx_;refine runs_seq ?_;refine runs_region ?_;refine rl1 (gn rfl) rfl rfl (step_box_agg (k := n + 0) rfl rfl) ⟨t_0, trivial⟩ (by omega) ?_;refine rl1 (gn rfl) rfl rfl (step_box_agg (k := n + 1) rfl rfl) ⟨t_0, trivial⟩ (by omega) ?_;refine rl1 (gn rfl) rfl rfl (step_box_one (k := n + 2) rfl rfl rfl rfl) ⟨t_0, trivial⟩ (by omega) ?_;refine rl1 (gn rfl) rfl rfl (step_allocc (k := n + 3) (zs := [.bool false]) (cs := [.sc (.bool false)]) rfl F.zero4 t_23 t_25 t_23) ⟨t_0, trivial⟩ (by omega) ?_;refine runsL_nil ?_;refine runs_seq ?_;refine runs_seq ?_;refine runs_region ?_;refine' rl0 (gn rfl) rfl rfl (step_load_all rfl rfl F.agg27 ?hl) ⟨?hb, trivial⟩ ?_
  case hb => exact t_0
  case hl => exact t_4
  refine' rl0 (gn rfl) rfl rfl (step_load_one rfl (ev_mk rfl) F.one32 ?hv) ⟨?hb, trivial⟩ ?_
  case hb => exact t_0
  case hv => rfl
  refine rl2 (gn rfl) rfl rfl (step_callc rfl Try.func9 rfl rfl rfl (nall_20 oa (k2 := (n + 4)) (kf := (n + 5)) (by omega)) t_2) ⟨t_0, t_0, trivial⟩ (by omega) (by omega) ?_;refine runsL_nil ?_;refine runs_block ?_;refine runs_rangeL (f := 24) (caps := [.ref (n + 4) 0, .ref (n + 5) 0]) (xs := (allL oa ra ta).map enW) (Dl := [(n + 3, fun i60 => .cells [.sc (.bool false)])]) (El := [(n + 4, .cells (opC oa), fun m_ b_ => .cells (opC oa)), (n + 5, .cells [.sc (.func (.func 20) #[] #[])], fun m_ b_ => .cells [.sc (.func (.func 20) #[] #[])])]) (kl := n + 6) (m := i + 1) (brk := true) (ex := .ret) hO rfl (.inl rfl) Try.func24 rfl rfl (all_20 oa ra ta hqra hqta (by omega) hoa hra) trivial t_0 (by omega) (by have := (List.getElem?_eq_some_iff.1 hx).1; simp; omega) (fun _ => ⟨by omega, _, rfl⟩) (fun h_ => nomatch h_) (fun v_ hv_ => t_26) rfl ⟨trivial, trivial⟩ ⟨⟨t_18, t_18, ⟨t_18, t_18, trivial⟩, t_21⟩, trivial⟩ ⟨⟨t_18, t_18, t_49⟩, ⟨t_18, t_18, t_49⟩, trivial⟩ (fun i60 => ⟨bdb_cells t_3, trivial⟩) ⟨bdb_cells t_3, bdb_cells t_3, trivial⟩ ?_ ?_
  · intro i60 v60 hi60 hv60 B60 n60 lr60 bx60 hR60 hl60 hk60 ho60 he60 hn60 hd60 hD60 hfr60
    have hf60 : ∀ k_, k_ < _ → k_ ≠ n + 3 → k_ ≠ n + 4 → k_ ≠ n + 5 → k_ ≠ n + 6 → bx60 k_ = _ := fun k_ a_ e0_ e1_ e2_ e3_ => hfr60 k_ a_ ⟨e0_, e1_, e2_, trivial⟩ e3_
    have hb60_0 : bx60 (n + 3) = .cells [.sc (.bool false)] := hD60.1
    have hc60_0 : bx60 (n + 0) = .cells [.sc (.int .i64 oa.k), .sc (.int .u64 oa.key), .sc (.int .u32 oa.x), .sc (.int .u32 oa.y), .sc (.string oa.v), .sc (.int .u32 oa.a), .sc (.int .u32 oa.b), .sc (.int .u32 oa.c), .sc (.int .u32 oa.d), .sc (.int .i64 oa.n)] := (hf60 _ (by omega) (by omega) (by omega) (by omega) (by omega)).trans t_0
    have hc60_1 : bx60 (n + 1) = .cells [.sc (.int .i64 ob.k), .sc (.int .u64 ob.key), .sc (.int .u32 ob.x), .sc (.int .u32 ob.y), .sc (.string ob.v), .sc (.int .u32 ob.a), .sc (.int .u32 ob.b), .sc (.int .u32 ob.c), .sc (.int .u32 ob.d), .sc (.int .i64 ob.n)] := (hf60 _ (by omega) (by omega) (by omega) (by omega) (by omega)).trans t_0
    have hc60_2 : bx60 (n + 2) = .cells [.sc (.func (.func 20) #[] #[])] := (hf60 _ (by omega) (by omega) (by omega) (by omega) (by omega)).trans t_0
    obtain ⟨t60, ht60, rfl⟩ := map_get hv60
    have hxa_ := al_ok hoa hra hka (List.mem_of_getElem? ht60)
    refine runs_keep (l' := [(12, .agg [.sc (.int .i64 t60.k), .sc (.int .u64 t60.n), .sc (.int .i64 t60.m)]), (4, .ref (n + 1) 0), (5, .ref (n + 2) 0), (6, .ref (n + 3) 0)]) ?_ ?_
    · exact t_43
    refine runs_bump 40 ?_;refine runs_region ?_;refine rl1 (gn rfl) rfl rfl (step_allocc (k := n60 + 0) (zs := [.int .i64 0, .int .u64 0, .int .i64 0]) (cs := [.sc (.int .i64 0), .sc (.int .u64 0), .sc (.int .i64 0)]) rfl F.zero41 t_23 t_25 t_23) ⟨t_8, trivial⟩ (by omega) ?_;refine' rls (gn rfl) rfl (step_storeA rfl rfl rfl rfl F.agg41 ?hm ?hl) ⟨?hb, trivial⟩ ?hk ?_
    case hb => exact t_8
    case hm => exact t_4
    case hl => exact t_4
    case hk => omega
    refine runsL_nil ?_;refine ⟨rfl, t_24, fun r60 => ?_⟩;show Runs _ _ _ _ ⟨mk _, _ + _, upd _ _ _⟩ _;refine runs_block ?_;refine runs_seq ?_;refine runs_region ?_;rcases Nat.lt_or_ge i60 i with hcs_ | hcs_
    · skip
      have hca_ := hxlo i60 t60 hcs_ ht60
      refine' rl0 (gn rfl) rfl rfl (step_load_all rfl rfl F.agg27 ?hl) ⟨?hb, trivial⟩ ?_
      case hb => exact t_8
      case hl => exact t_4
      refine' rl0 (gn rfl) rfl rfl (step_load_one rfl (ev_mk rfl) F.one32 ?hv) ⟨?hb, trivial⟩ ?_
      case hb => exact t_8
      case hv => rfl
      refine rl2 (gn rfl) rfl rfl (step_callc rfl Try.func9 rfl rfl rfl (nall_20 ob (k2 := (n60 + 1)) (kf := (n60 + 2)) (by omega)) t_2) ⟨t_8, t_8, trivial⟩ (by omega) (by omega) ?_;refine runsL_nil ?_;refine runs_block ?_;refine runs_rangeLR (k0 := n + 6) (f := 24) (caps := [.ref (n60 + 1) 0, .ref (n60 + 2) 0]) (xs := (allL ob rb tb).map enW) (Dl := []) (El := [(n60 + 1, .cells (opC ob), fun m_ b_ => .cells (opC ob)), (n60 + 2, .cells [.sc (.func (.func 20) #[] #[])], fun m_ b_ => .cells [.sc (.func (.func 20) #[] #[])])]) (kl := n60 + 3) (m := (allL ob rb tb).length) (brk := false) (ex := .normal) hR60 hl60 t_34 t_8 rfl (.inl rfl) Try.func24 rfl rfl (all_20 ob rb tb hqrb hqtb (by omega) hob hrb) trivial t_8 (by omega) (by simp) (fun h_ => nomatch h_) (fun _ => ⟨by simp, rfl⟩) (fun v_ hv_ => t_26) rfl trivial trivial ⟨⟨t_18, t_18, t_50⟩, ⟨t_18, t_18, t_50⟩, trivial⟩ (fun i61 => trivial) ⟨bdb_cells t_3, bdb_cells t_3, trivial⟩ ?_ ?_
      · intro i61 v61 hi61 hv61 B61 n61 lr61 bx61 hR61 hl61 hk61 ho61 he61 hn61 hd61 hD61 hfr61
        have hf61 : ∀ k_, k_ < _ → k_ ≠ n60 + 1 → k_ ≠ n60 + 2 → k_ ≠ n60 + 3 → bx61 k_ = _ := fun k_ a_ e0_ e1_ e2_ => hfr61 k_ a_ ⟨e0_, e1_, trivial⟩ e2_
        have hc61_0 : bx61 (n + 3) = .cells [.sc (.bool false)] := (hf61 _ (by omega) (by omega) (by omega) (by omega)).trans t_8
        have hc61_1 : bx61 (n + 0) = .cells [.sc (.int .i64 oa.k), .sc (.int .u64 oa.key), .sc (.int .u32 oa.x), .sc (.int .u32 oa.y), .sc (.string oa.v), .sc (.int .u32 oa.a), .sc (.int .u32 oa.b), .sc (.int .u32 oa.c), .sc (.int .u32 oa.d), .sc (.int .i64 oa.n)] := (hf61 _ (by omega) (by omega) (by omega) (by omega)).trans t_8
        have hc61_2 : bx61 (n + 1) = .cells [.sc (.int .i64 ob.k), .sc (.int .u64 ob.key), .sc (.int .u32 ob.x), .sc (.int .u32 ob.y), .sc (.string ob.v), .sc (.int .u32 ob.a), .sc (.int .u32 ob.b), .sc (.int .u32 ob.c), .sc (.int .u32 ob.d), .sc (.int .i64 ob.n)] := (hf61 _ (by omega) (by omega) (by omega) (by omega)).trans t_8
        have hc61_3 : bx61 (n + 2) = .cells [.sc (.func (.func 20) #[] #[])] := (hf61 _ (by omega) (by omega) (by omega) (by omega)).trans t_8
        have hc61_4 : bx61 (n60 + 0) = .cells [.sc (.int .i64 t60.k), .sc (.int .u64 t60.n), .sc (.int .i64 t60.m)] := (hf61 _ (by omega) (by omega) (by omega) (by omega)).trans t_8
        obtain ⟨t61, ht61, rfl⟩ := map_get hv61
        have hxb_ := al_ok hob hrb hkb (List.mem_of_getElem? ht61)
        refine runs_keep (l' := [(16, .agg [.sc (.int .i64 t61.k), .sc (.int .u64 t61.n), .sc (.int .i64 t61.m)]), (6, .ref (n + 3) 0), (7, .ref (n60 + 0) 0)]) ?_ ?_
        · exact t_43
        refine runs_bump 40 ?_;refine runs_region ?_;refine rl1 (gn rfl) rfl rfl (step_allocc (k := n61 + 0) (zs := [.int .i64 0, .int .u64 0, .int .i64 0]) (cs := [.sc (.int .i64 0), .sc (.int .u64 0), .sc (.int .i64 0)]) rfl F.zero41 t_23 t_25 t_23) ⟨t_9, trivial⟩ (by omega) ?_;refine' rls (gn rfl) rfl (step_storeA rfl rfl rfl rfl F.agg41 ?hm ?hl) ⟨?hb, trivial⟩ ?hk ?_
        case hb => exact t_9
        case hm => exact t_4
        case hl => exact t_4
        case hk => omega
        refine runsL_nil ?_;refine ⟨rfl, t_24, fun r61 => ?_⟩;show Runs _ _ _ _ ⟨mk _, _ + _, upd _ _ _⟩ _;refine runs_block ?_;refine runs_seq ?_;refine runs_region ?_;refine rl0 (gn rfl) rfl rfl (step_fieldAddr (off := 0) rfl (ev_mk rfl) Try.underlying41 rfl F.sz39 rfl) trivial ?_;refine' rl0 (gn rfl) rfl rfl (step_load_agg rfl (ev_mk rfl) F.agg39 ?hc ?hl) ⟨?hb, trivial⟩ ?_
        case hb => exact t_9
        case hc => rfl
        case hl => exact t_4
        refine rl0 (gn rfl) rfl rfl (step_fieldAddr (off := 0) rfl (ev_mk rfl) Try.underlying41 rfl F.sz39 rfl) trivial ?_;refine' rl0 (gn rfl) rfl rfl (step_load_agg rfl (ev_mk rfl) F.agg39 ?hc ?hl) ⟨?hb, trivial⟩ ?_
        case hb => exact t_9
        case hc => rfl
        case hl => exact t_4
        refine rl0 (gn rfl) rfl rfl (step_eql39 rfl (ev_mk rfl) (ev_mk rfl)) trivial ?_;refine rl0 (gn rfl) rfl rfl (step_mv rfl rfl) trivial ?_;refine rl_bool (d := 22) rfl (fun h1 => ?_) (fun h1 => ?_)
        · skip
          refine rl0 (gy rfl rfl rfl rfl rfl rfl) rfl rfl (step_fieldAddr (off := 2) rfl (ev_mk rfl) Try.underlying41 rfl F.sz3 rfl) trivial ?_;refine' rl0 (gy rfl rfl rfl rfl rfl rfl) rfl rfl (step_load_one rfl (ev_mk rfl) F.one3 ?hv) ⟨?hb, trivial⟩ ?_
          case hb => exact t_9
          case hv => rfl
          refine rl0 (gy rfl rfl rfl rfl rfl rfl) rfl rfl (step_fieldAddr (off := 2) rfl (ev_mk rfl) Try.underlying41 rfl F.sz3 rfl) trivial ?_;refine' rl0 (gy rfl rfl rfl rfl rfl rfl) rfl rfl (step_load_one rfl (ev_mk rfl) F.one3 ?hv) ⟨?hb, trivial⟩ ?_
          case hb => exact t_9
          case hv => rfl
          refine rl0 (gy rfl rfl rfl rfl rfl rfl) rfl rfl (step_callc rfl Try.func35 rfl rfl rfl (tog_c hxa_.2.2 hxb_.2.2) t_2) trivial ?_;refine rl_know (d := 27) (c := true) rfl (bad_ne (all_at hca_ ht61) (rs_eq.1 (by assumption))) ?_;refine rl0 (gy rfl rfl rfl rfl rfl rfl) rfl rfl (step_unOp (c := .bool false) rfl (ev_mk rfl) (fun _ => rfl)) trivial ?_;refine rl0 (gn rfl) rfl rfl (step_pick rfl (ev_mk rfl) (ev_mk rfl)) trivial ?_;refine runsL_nil ?_;refine runs_cond false (ev_mk rfl) (fun h_ => nomatch h_) (fun _ => ?_);refine runs_skip ?_;refine ⟨t_28, t_9, fun k_ hk_ hl_ => ?_⟩;simp only [dL, updL, List.map_cons, List.map_nil]; exact ble t_59
        · skip
          refine rlk rfl rfl rfl rfl rfl (ngb rfl rfl) rfl rfl ?_;refine rlk rfl rfl rfl rfl rfl (ngb rfl rfl) rfl rfl ?_;refine rlk rfl rfl rfl rfl rfl (ngb rfl rfl) rfl rfl ?_;refine rlk rfl rfl rfl rfl rfl (ngb rfl rfl) rfl rfl ?_;refine rlk rfl rfl rfl rfl rfl (ngb rfl rfl) rfl rfl ?_;refine rlk rfl rfl rfl rfl rfl (ngb rfl rfl) rfl rfl ?_;refine rl0 (gn rfl) rfl rfl (step_pick rfl (ev_mk rfl) (ev_mk rfl)) trivial ?_;refine runsL_nil ?_;refine runs_cond false (ev_mk rfl) (fun h_ => nomatch h_) (fun _ => ?_);refine runs_skip ?_;refine ⟨t_28, t_9, fun k_ hk_ hl_ => ?_⟩;simp only [dL, updL, List.map_cons, List.map_nil]; exact ble t_59
      · intro bb61 b61 hb61
        simp only [dL, eM, updL, List.map_cons, List.map_nil] at hb61
        subst hb61
        refine ⟨t_19, t_8, fun k_ hk_ hl_ => ?_⟩;simp only [dL, updL, List.map_cons, List.map_nil]; by_cases e0_ : k_ = (n + 3); (focus subst e0_; refine bl_eq ?_; first | (refine' blec ?hb ?hl; (case hb => repeat (first | exact uE | assumption | refine uN (by omega) ?_ | fail)); (case hl => first | exact VLes.refl _ | ((repeat' (first | exact VLe.refl _ | exact VLe.own_sl _ _ _ | exact VLe.fl_sl _ _ | exact VLe.nil_sl _ | exact VLe.nil_fl _ | exact VLes.refl _ | exact .nil | refine VLe.tup ?_ | refine VLe.agg ?_ | refine .cons ?_ ?_ | (rw [Int.natCast_add]; exact VLe.refl _) | exact vle_int (by omega) | exact vle_bool t_67 | fail)); done))) | (refine ble ?_; (repeat (first | exact uE | assumption | refine uN (by omega) ?_ | fail)); done)); refine bl_ne e0_ ?_; exact ble t_62
    · skip
      have hei_ : i60 = i := by omega
      have htw_ : t60 = x := by rw [hei_] at ht60; exact Option.some.inj (ht60.symm.trans hx)
      refine' rl0 (gn rfl) rfl rfl (step_load_all rfl rfl F.agg27 ?hl) ⟨?hb, trivial⟩ ?_
      case hb => exact t_8
      case hl => exact t_4
      refine' rl0 (gn rfl) rfl rfl (step_load_one rfl (ev_mk rfl) F.one32 ?hv) ⟨?hb, trivial⟩ ?_
      case hb => exact t_8
      case hv => rfl
      refine rl2 (gn rfl) rfl rfl (step_callc rfl Try.func9 rfl rfl rfl (nall_20 ob (k2 := (n60 + 1)) (kf := (n60 + 2)) (by omega)) t_2) ⟨t_8, t_8, trivial⟩ (by omega) (by omega) ?_;refine runsL_nil ?_;refine runs_block ?_;refine runs_rangeLR (k0 := n + 6) (f := 24) (caps := [.ref (n60 + 1) 0, .ref (n60 + 2) 0]) (xs := (allL ob rb tb).map enW) (Dl := [(n + 3, fun i61 => .cells [.sc (.bool false)])]) (El := [(n60 + 1, .cells (opC ob), fun m_ b_ => .cells (opC ob)), (n60 + 2, .cells [.sc (.func (.func 20) #[] #[])], fun m_ b_ => .cells [.sc (.func (.func 20) #[] #[])])]) (kl := n60 + 3) (m := j + 1) (brk := true) (ex := .ret) hR60 hl60 t_34 t_8 rfl (.inl rfl) Try.func24 rfl rfl (all_20 ob rb tb hqrb hqtb (by omega) hob hrb) trivial t_8 (by omega) (by have := (List.getElem?_eq_some_iff.1 hy).1; simp; omega) (fun _ => ⟨by omega, _, rfl⟩) (fun h_ => nomatch h_) (fun v_ hv_ => t_26) rfl ⟨trivial, trivial⟩ ⟨⟨t_18, t_18, ⟨t_18, t_18, trivial⟩, t_21⟩, trivial⟩ ⟨⟨t_18, t_18, t_50⟩, ⟨t_18, t_18, t_50⟩, trivial⟩ (fun i61 => ⟨bdb_cells t_3, trivial⟩) ⟨bdb_cells t_3, bdb_cells t_3, trivial⟩ ?_ ?_
      · intro i61 v61 hi61 hv61 B61 n61 lr61 bx61 hR61 hl61 hk61 ho61 he61 hn61 hd61 hD61 hfr61
        have hf61 : ∀ k_, k_ < _ → k_ ≠ n + 3 → k_ ≠ n60 + 1 → k_ ≠ n60 + 2 → k_ ≠ n60 + 3 → bx61 k_ = _ := fun k_ a_ e0_ e1_ e2_ e3_ => hfr61 k_ a_ ⟨e0_, e1_, e2_, trivial⟩ e3_
        have hb61_0 : bx61 (n + 3) = .cells [.sc (.bool false)] := hD61.1
        have hc61_1 : bx61 (n + 0) = .cells [.sc (.int .i64 oa.k), .sc (.int .u64 oa.key), .sc (.int .u32 oa.x), .sc (.int .u32 oa.y), .sc (.string oa.v), .sc (.int .u32 oa.a), .sc (.int .u32 oa.b), .sc (.int .u32 oa.c), .sc (.int .u32 oa.d), .sc (.int .i64 oa.n)] := (hf61 _ (by omega) (by omega) (by omega) (by omega) (by omega)).trans t_8
        have hc61_2 : bx61 (n + 1) = .cells [.sc (.int .i64 ob.k), .sc (.int .u64 ob.key), .sc (.int .u32 ob.x), .sc (.int .u32 ob.y), .sc (.string ob.v), .sc (.int .u32 ob.a), .sc (.int .u32 ob.b), .sc (.int .u32 ob.c), .sc (.int .u32 ob.d), .sc (.int .i64 ob.n)] := (hf61 _ (by omega) (by omega) (by omega) (by omega) (by omega)).trans t_8
        have hc61_3 : bx61 (n + 2) = .cells [.sc (.func (.func 20) #[] #[])] := (hf61 _ (by omega) (by omega) (by omega) (by omega) (by omega)).trans t_8
        have hc61_4 : bx61 (n60 + 0) = .cells [.sc (.int .i64 t60.k), .sc (.int .u64 t60.n), .sc (.int .i64 t60.m)] := (hf61 _ (by omega) (by omega) (by omega) (by omega) (by omega)).trans t_8
        obtain ⟨t61, ht61, rfl⟩ := map_get hv61
        have hxb_ := al_ok hob hrb hkb (List.mem_of_getElem? ht61)
        refine runs_keep (l' := [(16, .agg [.sc (.int .i64 t61.k), .sc (.int .u64 t61.n), .sc (.int .i64 t61.m)]), (6, .ref (n + 3) 0), (7, .ref (n60 + 0) 0)]) ?_ ?_
        · exact t_43
        refine runs_bump 40 ?_;refine runs_region ?_;refine rl1 (gn rfl) rfl rfl (step_allocc (k := n61 + 0) (zs := [.int .i64 0, .int .u64 0, .int .i64 0]) (cs := [.sc (.int .i64 0), .sc (.int .u64 0), .sc (.int .i64 0)]) rfl F.zero41 t_23 t_25 t_23) ⟨t_9, trivial⟩ (by omega) ?_;refine' rls (gn rfl) rfl (step_storeA rfl rfl rfl rfl F.agg41 ?hm ?hl) ⟨?hb, trivial⟩ ?hk ?_
        case hb => exact t_9
        case hm => exact t_4
        case hl => exact t_4
        case hk => omega
        refine runsL_nil ?_;refine ⟨rfl, t_24, fun r61 => ?_⟩;show Runs _ _ _ _ ⟨mk _, _ + _, upd _ _ _⟩ _;refine runs_block ?_;refine runs_seq ?_;refine runs_region ?_;rcases Nat.lt_or_ge i61 j with hcs_ | hcs_
        · skip
          have hcb_ : (!badW t60 t61) = true := by rw [htw_]; exact hylo i61 t61 hcs_ ht61
          refine rl0 (gn rfl) rfl rfl (step_fieldAddr (off := 0) rfl (ev_mk rfl) Try.underlying41 rfl F.sz39 rfl) trivial ?_;refine' rl0 (gn rfl) rfl rfl (step_load_agg rfl (ev_mk rfl) F.agg39 ?hc ?hl) ⟨?hb, trivial⟩ ?_
          case hb => exact t_9
          case hc => rfl
          case hl => exact t_4
          refine rl0 (gn rfl) rfl rfl (step_fieldAddr (off := 0) rfl (ev_mk rfl) Try.underlying41 rfl F.sz39 rfl) trivial ?_;refine' rl0 (gn rfl) rfl rfl (step_load_agg rfl (ev_mk rfl) F.agg39 ?hc ?hl) ⟨?hb, trivial⟩ ?_
          case hb => exact t_9
          case hc => rfl
          case hl => exact t_4
          refine rl0 (gn rfl) rfl rfl (step_eql39 rfl (ev_mk rfl) (ev_mk rfl)) trivial ?_;refine rl0 (gn rfl) rfl rfl (step_mv rfl rfl) trivial ?_;refine rl_bool (d := 22) rfl (fun h1 => ?_) (fun h1 => ?_)
          · skip
            refine rl0 (gy rfl rfl rfl rfl rfl rfl) rfl rfl (step_fieldAddr (off := 2) rfl (ev_mk rfl) Try.underlying41 rfl F.sz3 rfl) trivial ?_;refine' rl0 (gy rfl rfl rfl rfl rfl rfl) rfl rfl (step_load_one rfl (ev_mk rfl) F.one3 ?hv) ⟨?hb, trivial⟩ ?_
            case hb => exact t_9
            case hv => rfl
            refine rl0 (gy rfl rfl rfl rfl rfl rfl) rfl rfl (step_fieldAddr (off := 2) rfl (ev_mk rfl) Try.underlying41 rfl F.sz3 rfl) trivial ?_;refine' rl0 (gy rfl rfl rfl rfl rfl rfl) rfl rfl (step_load_one rfl (ev_mk rfl) F.one3 ?hv) ⟨?hb, trivial⟩ ?_
            case hb => exact t_9
            case hv => rfl
            refine rl0 (gy rfl rfl rfl rfl rfl rfl) rfl rfl (step_callc rfl Try.func35 rfl rfl rfl (tog_c hxa_.2.2 hxb_.2.2) t_2) trivial ?_;refine rl_know (d := 27) (c := true) rfl (bad_ne hcb_ (rs_eq.1 (by assumption))) ?_;refine rl0 (gy rfl rfl rfl rfl rfl rfl) rfl rfl (step_unOp (c := .bool false) rfl (ev_mk rfl) (fun _ => rfl)) trivial ?_;refine rl0 (gn rfl) rfl rfl (step_pick rfl (ev_mk rfl) (ev_mk rfl)) trivial ?_;refine runsL_nil ?_;refine runs_cond false (ev_mk rfl) (fun h_ => nomatch h_) (fun _ => ?_);refine runs_skip ?_;refine ⟨t_19, t_9, fun k_ hk_ hl_ => ?_⟩;simp only [dL, updL, List.map_cons, List.map_nil]; by_cases e0_ : k_ = (n + 3); (focus subst e0_; refine bl_eq ?_; first | (refine' blec ?hb ?hl; (case hb => repeat (first | exact uE | assumption | refine uN (by omega) ?_ | fail)); (case hl => first | exact VLes.refl _ | ((repeat' (first | exact VLe.refl _ | exact VLe.own_sl _ _ _ | exact VLe.fl_sl _ _ | exact VLe.nil_sl _ | exact VLe.nil_fl _ | exact VLes.refl _ | exact .nil | refine VLe.tup ?_ | refine VLe.agg ?_ | refine .cons ?_ ?_ | (rw [Int.natCast_add]; exact VLe.refl _) | exact vle_int (by omega) | exact vle_bool t_67 | fail)); done))) | (refine ble ?_; (repeat (first | exact uE | assumption | refine uN (by omega) ?_ | fail)); done)); refine bl_ne e0_ ?_; exact ble t_54
          · skip
            refine rlk rfl rfl rfl rfl rfl (ngb rfl rfl) rfl rfl ?_;refine rlk rfl rfl rfl rfl rfl (ngb rfl rfl) rfl rfl ?_;refine rlk rfl rfl rfl rfl rfl (ngb rfl rfl) rfl rfl ?_;refine rlk rfl rfl rfl rfl rfl (ngb rfl rfl) rfl rfl ?_;refine rlk rfl rfl rfl rfl rfl (ngb rfl rfl) rfl rfl ?_;refine rlk rfl rfl rfl rfl rfl (ngb rfl rfl) rfl rfl ?_;refine rl0 (gn rfl) rfl rfl (step_pick rfl (ev_mk rfl) (ev_mk rfl)) trivial ?_;refine runsL_nil ?_;refine runs_cond false (ev_mk rfl) (fun h_ => nomatch h_) (fun _ => ?_);refine runs_skip ?_;refine ⟨t_19, t_9, fun k_ hk_ hl_ => ?_⟩;simp only [dL, updL, List.map_cons, List.map_nil]; by_cases e0_ : k_ = (n + 3); (focus subst e0_; refine bl_eq ?_; first | (refine' blec ?hb ?hl; (case hb => repeat (first | exact uE | assumption | refine uN (by omega) ?_ | fail)); (case hl => first | exact VLes.refl _ | ((repeat' (first | exact VLe.refl _ | exact VLe.own_sl _ _ _ | exact VLe.fl_sl _ _ | exact VLe.nil_sl _ | exact VLe.nil_fl _ | exact VLes.refl _ | exact .nil | refine VLe.tup ?_ | refine VLe.agg ?_ | refine .cons ?_ ?_ | (rw [Int.natCast_add]; exact VLe.refl _) | exact vle_int (by omega) | exact vle_bool t_67 | fail)); done))) | (refine ble ?_; (repeat (first | exact uE | assumption | refine uN (by omega) ?_ | fail)); done)); refine bl_ne e0_ ?_; exact ble t_54
        · skip
          have hej_ : i61 = j := by omega
          have htv_ : t61 = y := by rw [hej_] at ht61; exact Option.some.inj (ht61.symm.trans hy)
          have hcb_ : (!badW t60 t61) = false := by rw [htw_, htv_]; exact hby_
          refine rl0 (gn rfl) rfl rfl (step_fieldAddr (off := 0) rfl (ev_mk rfl) Try.underlying41 rfl F.sz39 rfl) trivial ?_;refine' rl0 (gn rfl) rfl rfl (step_load_agg rfl (ev_mk rfl) F.agg39 ?hc ?hl) ⟨?hb, trivial⟩ ?_
          case hb => exact t_9
          case hc => rfl
          case hl => exact t_4
          refine rl0 (gn rfl) rfl rfl (step_fieldAddr (off := 0) rfl (ev_mk rfl) Try.underlying41 rfl F.sz39 rfl) trivial ?_;refine' rl0 (gn rfl) rfl rfl (step_load_agg rfl (ev_mk rfl) F.agg39 ?hc ?hl) ⟨?hb, trivial⟩ ?_
          case hb => exact t_9
          case hc => rfl
          case hl => exact t_4
          refine rl0 (gn rfl) rfl rfl (step_eql39 rfl (ev_mk rfl) (ev_mk rfl)) trivial ?_;refine rl_know (d := 21) (c := true) rfl (rs_eq.2 (bad_yes hcb_).1) ?_;refine rl0 (gn rfl) rfl rfl (step_mv rfl rfl) trivial ?_;refine rl0 (gy rfl rfl rfl rfl rfl rfl) rfl rfl (step_fieldAddr (off := 2) rfl (ev_mk rfl) Try.underlying41 rfl F.sz3 rfl) trivial ?_;refine' rl0 (gy rfl rfl rfl rfl rfl rfl) rfl rfl (step_load_one rfl (ev_mk rfl) F.one3 ?hv) ⟨?hb, trivial⟩ ?_
          case hb => exact t_9
          case hv => rfl
          refine rl0 (gy rfl rfl rfl rfl rfl rfl) rfl rfl (step_fieldAddr (off := 2) rfl (ev_mk rfl) Try.underlying41 rfl F.sz3 rfl) trivial ?_;refine' rl0 (gy rfl rfl rfl rfl rfl rfl) rfl rfl (step_load_one rfl (ev_mk rfl) F.one3 ?hv) ⟨?hb, trivial⟩ ?_
          case hb => exact t_9
          case hv => rfl
          refine rl0 (gy rfl rfl rfl rfl rfl rfl) rfl rfl (step_callc rfl Try.func35 rfl rfl rfl (tog_c hxa_.2.2 hxb_.2.2) t_2) trivial ?_;refine rl_know (d := 27) (c := false) rfl ((bad_yes hcb_).2) ?_;refine rl0 (gy rfl rfl rfl rfl rfl rfl) rfl rfl (step_unOp (c := .bool true) rfl (ev_mk rfl) (fun _ => rfl)) trivial ?_;refine rl0 (gn rfl) rfl rfl (step_pick rfl (ev_mk rfl) (ev_mk rfl)) trivial ?_;refine runsL_nil ?_;refine runs_cond true (ev_mk rfl) (fun _ => ?_) (fun h_ => nomatch h_);refine runs_seq ?_;refine runs_region ?_;refine' rls (gn rfl) rfl (step_store1 rfl rfl rfl rfl F.one4 rfl rfl ?hl ?hc) ⟨?hb, trivial⟩ ?hk ?_
          case hb => exact t_9
          case hl => exact t_22
          case hc => exact t_27
          case hk => omega
          refine runsL_nil ?_;refine runs_ret ?_;refine ⟨t_19, t_9, fun k_ hk_ hl_ => ?_⟩;simp only [dL, updL, List.map_cons, List.map_nil]; by_cases e0_ : k_ = (n + 3); (focus subst e0_; refine bl_eq ?_; first | (refine' blec ?hb ?hl; (case hb => repeat (first | exact uE | assumption | refine uN (by omega) ?_ | fail)); (case hl => first | exact VLes.refl _ | ((repeat' (first | exact VLe.refl _ | exact VLe.own_sl _ _ _ | exact VLe.fl_sl _ _ | exact VLe.nil_sl _ | exact VLe.nil_fl _ | exact VLes.refl _ | exact .nil | refine VLe.tup ?_ | refine VLe.agg ?_ | refine .cons ?_ ?_ | (rw [Int.natCast_add]; exact VLe.refl _) | exact vle_int (by omega) | exact vle_bool t_67 | fail)); done))) | (refine ble ?_; (repeat (first | exact uE | assumption | refine uN (by omega) ?_ | fail)); done)); refine bl_ne e0_ ?_; exact ble t_54
      · intro bb61 b61 hb61
        simp only [dL, eM, updL, List.map_cons, List.map_nil] at hb61
        subst hb61
        refine ⟨t_19, t_8, fun k_ hk_ hl_ => ?_⟩;simp only [dL, updL, List.map_cons, List.map_nil]; by_cases e0_ : k_ = (n + 3); (focus subst e0_; refine bl_eq ?_; first | (refine' blec ?hb ?hl; (case hb => repeat (first | exact uE | assumption | refine uN (by omega) ?_ | fail)); (case hl => first | exact VLes.refl _ | ((repeat' (first | exact VLe.refl _ | exact VLe.own_sl _ _ _ | exact VLe.fl_sl _ _ | exact VLe.nil_sl _ | exact VLe.nil_fl _ | exact VLes.refl _ | exact .nil | refine VLe.tup ?_ | refine VLe.agg ?_ | refine .cons ?_ ?_ | (rw [Int.natCast_add]; exact VLe.refl _) | exact vle_int (by omega) | exact vle_bool t_67 | fail)); done))) | (refine ble ?_; (repeat (first | exact uE | assumption | refine uN (by omega) ?_ | fail)); done)); refine bl_ne e0_ ?_; exact ble t_62
  · intro bb60 b60 hb60
    simp only [dL, eM, updL, List.map_cons, List.map_nil] at hb60
    subst hb60
    refine ⟨t_11, fin_mkg (resc1 rfl t_0 F.one4 rfl res0) ?_ ?_ ?_ ?_ ?_⟩
    · exact t_1
    · exact t_3
    · exact t_6
    · exact t_17
    · exact t_3
end Go.Proofs.Ythpkhecialkmmaa
