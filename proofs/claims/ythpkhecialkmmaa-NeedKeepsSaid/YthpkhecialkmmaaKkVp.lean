import Derived.Test.YthpkhecialkmmaaKkQq
import Derived.Test.YthpkhecialkmmaaKkVmT
import Derived.Test.YthpkhecialkmmaaKkVmP
import Derived.Test.YthpkhecialkmmaaKkVmV
import Derived.Test.YthpkhecialkmmaaKkVmO
import Derived.Test.YthpkhecialkmmaaKkVa
import Derived.Test.YthpkhecialkmmaaKkVb
import Derived.Test.YthpkhecialkmmaaKkVc
import Derived.Test.YthpkhecialkmmaaKkVd
import Derived.Test.YthpkhecialkmmaaKkVf
import Derived.Test.YthpkhecialkmmaaKkVh
import Derived.Test.YthpkhecialkmmaaKkVi
import Derived.Test.YthpkhecialkmmaaKkVj
import Derived.Test.YthpkhecialkmmaaKkVk
import Derived.Test.YthpkhecialkmmaaKkVo
namespace Go.Proofs.Ythpkhecialkmmaa
open Go.Vm
set_option linter.unusedVariables false
set_option linter.unusedSimpArgs false
set_option maxRecDepth 100000 in
set_option maxHeartbeats 4000000 in
theorem ap_no_14 (oa ob : Op1) (r : Rc1) (ta tb : Bool) {kr kt : Nat} (th0 : Bool) (hta : ta = (th0 && decide (oa.key = r.key))) (htb : tb = (th0 && decide (ob.key = r.key))) (hoa : OkO oa) (hob : OkO ob) (hr : OkR r) (hka : 0 ≤ oa.key) (hkb : 0 ≤ ob.key) (hap : apF (allL oa r ta) (allL ob r tb) = false) : Does Try.prog 16 [.agg (opC oa), .agg (opC ob), .fn 14 [.ref kr 0, .ref kt 0]] [(kr, .cells (rcdC r)), (kt, .cells [.sc (.bool th0)])] [] (.sc (.bool false)) := by
  refine does_mkr 40 Try.func16 rfl rfl rfl (fun n B bx hd hpre hup hvs hbx hgx hO => ?_);have hp0 := hpre.1;have hk0 := lt_cells hd hp0;have hp1 := hpre.2.1;have hk1 := lt_cells hd hp1;obtain ⟨i, x, hx, hbx_, hxlo⟩ := all_first hap;obtain ⟨j, y, hy, hby_, hylo⟩ := all_first hbx_;obtain ⟨hfb0_, hfb1_, _⟩ := hvs.2.2.1;have hfc0_ := V.bd_mono (Nat.le_add_right n 40) _ hfb0_;have hfc1_ := V.bd_mono (Nat.le_add_right n 40) _ hfb1_;refine runs_seq ?_;refine runs_region ?_;refine rl1 (gn rfl) rfl rfl (step_box_agg (k := n + 0) rfl rfl) ⟨t_0, trivial⟩ (by omega) ?_;refine rl1 (gn rfl) rfl rfl (step_box_agg (k := n + 1) rfl rfl) ⟨t_0, trivial⟩ (by omega) ?_;refine rl1 (gn rfl) rfl rfl (step_box_one (k := n + 2) rfl rfl rfl rfl) ⟨t_0, trivial⟩ (by omega) ?_;refine rl1 (gn rfl) rfl rfl (step_allocc (k := n + 3) (zs := [.bool false]) (cs := [.sc (.bool false)]) rfl F.zero4 t_23 t_25 t_23) ⟨t_0, trivial⟩ (by omega) ?_;refine runsL_nil ?_;refine runs_seq ?_;refine runs_seq ?_;refine runs_region ?_;refine' rl0 (gn rfl) rfl rfl (step_load_all rfl rfl F.agg27 ?hl) ⟨?hb, trivial⟩ ?_
  case hb => exact t_0
  case hl => exact t_4
  refine' rl0 (gn rfl) rfl rfl (step_load_one rfl (ev_mk rfl) F.one32 ?hv) ⟨?hb, trivial⟩ ?_
  case hb => exact t_0
  case hv => rfl
  refine rl2 (gn rfl) rfl rfl (step_callc rfl Try.func9 rfl rfl rfl (nall_14 oa (k2 := (n + 4)) (kf := (n + 5)) (by omega)) t_2) ⟨t_0, t_0, trivial⟩ (by omega) (by omega) ?_;refine runsL_nil ?_;refine runs_block ?_;refine runs_rangeL (f := 24) (caps := [.ref (n + 4) 0, .ref (n + 5) 0]) (xs := (allL oa r ta).map enW) (Dl := [(n + 3, fun i60 => .cells [.sc (.bool false)])]) (El := [(n + 4, .cells (opC oa), fun m_ b_ => .cells (opC oa)), (n + 5, .cells [.fn 14 [.ref kr 0, .ref kt 0]], fun m_ b_ => .cells [.fn 14 [.ref kr 0, .ref kt 0]])]) (kl := n + 6) (m := i + 1) (brk := true) (ex := .ret) hO rfl (.inl rfl) Try.func24 rfl rfl (all_14 oa r ta th0 hta (by omega) hoa hr) ⟨⟨t_18, t_18, ⟨t_18, trivial⟩, ⟨t_18, t_18, trivial⟩, t_0⟩, ⟨t_18, t_18, ⟨t_18, trivial⟩, ⟨t_18, t_18, trivial⟩, t_0⟩, trivial⟩ t_0 (by omega) (by have := (List.getElem?_eq_some_iff.1 hx).1; simp; omega) (fun _ => ⟨by omega, _, rfl⟩) (fun h_ => nomatch h_) (fun v_ hv_ => t_26) rfl ⟨trivial, trivial⟩ ⟨⟨t_18, t_18, ⟨t_18, t_18, trivial⟩, t_21⟩, trivial⟩ ⟨⟨t_18, t_18, t_49⟩, ⟨t_18, t_18, t_49⟩, trivial⟩ (fun i60 => ⟨bdb_cells t_3, trivial⟩) ⟨bdb_cells t_3, bdb_cells t_3, trivial⟩ ?_ ?_
  · intro i60 v60 hi60 hv60 B60 n60 lr60 bx60 hR60 hl60 hk60 ho60 he60 hn60 hd60 hD60 hfr60
    have hf60 : ∀ k_, k_ < _ → k_ ≠ n + 3 → k_ ≠ n + 4 → k_ ≠ n + 5 → k_ ≠ n + 6 → bx60 k_ = _ := fun k_ a_ e0_ e1_ e2_ e3_ => hfr60 k_ a_ ⟨e0_, e1_, e2_, trivial⟩ e3_
    have hb60_0 : bx60 (n + 3) = .cells [.sc (.bool false)] := hD60.1
    have hc60_0 : bx60 kr = .cells [.sc (.int .u64 r.id), .sc (.int .u64 r.key), .sc (.int .u32 r.x), .sc (.int .u32 r.y), .sc (.string r.v), .sc (.bool r.gh)] := (hf60 _ (by omega) (by omega) (by omega) (by omega) (by omega)).trans t_0
    have hc60_1 : bx60 kt = .cells [.sc (.bool th0)] := (hf60 _ (by omega) (by omega) (by omega) (by omega) (by omega)).trans t_0
    have hc60_2 : bx60 (n + 0) = .cells [.sc (.int .i64 oa.k), .sc (.int .u64 oa.key), .sc (.int .u32 oa.x), .sc (.int .u32 oa.y), .sc (.string oa.v), .sc (.int .u32 oa.a), .sc (.int .u32 oa.b), .sc (.int .u32 oa.c), .sc (.int .u32 oa.d), .sc (.int .i64 oa.n)] := (hf60 _ (by omega) (by omega) (by omega) (by omega) (by omega)).trans t_0
    have hc60_3 : bx60 (n + 1) = .cells [.sc (.int .i64 ob.k), .sc (.int .u64 ob.key), .sc (.int .u32 ob.x), .sc (.int .u32 ob.y), .sc (.string ob.v), .sc (.int .u32 ob.a), .sc (.int .u32 ob.b), .sc (.int .u32 ob.c), .sc (.int .u32 ob.d), .sc (.int .i64 ob.n)] := (hf60 _ (by omega) (by omega) (by omega) (by omega) (by omega)).trans t_0
    have hc60_4 : bx60 (n + 2) = .cells [.fn 14 [.ref kr 0, .ref kt 0]] := (hf60 _ (by omega) (by omega) (by omega) (by omega) (by omega)).trans t_0
    obtain ⟨t60, ht60, rfl⟩ := map_get hv60
    have hxa_ := al_ok hoa hr hka (List.mem_of_getElem? ht60)
    refine runs_keep (l' := [(12, .agg [.sc (.int .i64 t60.k), .sc (.int .u64 t60.n), .sc (.int .i64 t60.m)]), (4, .ref (n + 1) 0), (5, .ref (n + 2) 0), (6, .ref (n + 3) 0)]) ?_ ?_
    · exact t_43
    refine runs_bump 40 ?_;refine runs_region ?_;refine rl1 (gn rfl) rfl rfl (step_allocc (k := n60 + 0) (zs := [.int .i64 0, .int .u64 0, .int .i64 0]) (cs := [.sc (.int .i64 0), .sc (.int .u64 0), .sc (.int .i64 0)]) rfl F.zero41 t_23 t_25 t_23) ⟨t_8, trivial⟩ (by omega) ?_;refine' rls (gn rfl) rfl (step_storeA rfl rfl rfl rfl F.agg41 ?hm ?hl) ⟨?hb, trivial⟩ ?hk ?_
    case hb => exact t_8
    case hm => exact t_4
    case hl => exact t_4
    case hk => omega
    refine runsL_nil ?_;refine ⟨rfl, t_24, fun r60 => ?_⟩;show Runs _ _ _ _ ⟨mk _, _ + _, upd _ _ _⟩ _;refine runs_block ?_;refine runs_seq ?_;refine runs_region ?_;rcases Nat.lt_or_ge i60 i with hcs_ | hcs_
    · skip
      have hca_ := hxlo i60 t60 hcs_ ht60
      refine' rl0 (gn rfl) rfl rfl (step_load_all rfl rfl F.agg27 ?hl) ⟨?hb, trivial⟩ ?_
      case hb => exact t_8
      case hl => exact t_4
      refine' rl0 (gn rfl) rfl rfl (step_load_one rfl (ev_mk rfl) F.one32 ?hv) ⟨?hb, trivial⟩ ?_
      case hb => exact t_8
      case hv => rfl
      refine rl2 (gn rfl) rfl rfl (step_callc rfl Try.func9 rfl rfl rfl (nall_14 ob (k2 := (n60 + 1)) (kf := (n60 + 2)) (by omega)) t_2) ⟨t_8, t_8, trivial⟩ (by omega) (by omega) ?_;refine runsL_nil ?_;refine runs_block ?_;have hfd0_ := V.bd_mono (n := n) (m := n60 + 40) (by omega) _ hfb0_;have hfd1_ := V.bd_mono (n := n) (m := n60 + 40) (by omega) _ hfb1_;refine runs_rangeLR (k0 := n + 6) (f := 24) (caps := [.ref (n60 + 1) 0, .ref (n60 + 2) 0]) (xs := (allL ob r tb).map enW) (Dl := []) (El := [(n60 + 1, .cells (opC ob), fun m_ b_ => .cells (opC ob)), (n60 + 2, .cells [.fn 14 [.ref kr 0, .ref kt 0]], fun m_ b_ => .cells [.fn 14 [.ref kr 0, .ref kt 0]])]) (kl := n60 + 3) (m := (allL ob r tb).length) (brk := false) (ex := .normal) hR60 hl60 t_34 t_8 rfl (.inl rfl) Try.func24 rfl rfl (all_14 ob r tb th0 htb (by omega) hob hr) ⟨⟨t_18, t_18, trivial, ⟨t_18, t_18, trivial⟩, t_8⟩, ⟨t_18, t_18, trivial, ⟨t_18, t_18, trivial⟩, t_8⟩, trivial⟩ t_8 (by omega) (by simp) (fun h_ => nomatch h_) (fun _ => ⟨by simp, rfl⟩) (fun v_ hv_ => t_26) rfl trivial trivial ⟨⟨t_18, t_18, t_50⟩, ⟨t_18, t_18, t_50⟩, trivial⟩ (fun i61 => trivial) ⟨bdb_cells t_3, bdb_cells t_3, trivial⟩ ?_ ?_
      · intro i61 v61 hi61 hv61 B61 n61 lr61 bx61 hR61 hl61 hk61 ho61 he61 hn61 hd61 hD61 hfr61
        have hf61 : ∀ k_, k_ < _ → k_ ≠ n60 + 1 → k_ ≠ n60 + 2 → k_ ≠ n60 + 3 → bx61 k_ = _ := fun k_ a_ e0_ e1_ e2_ => hfr61 k_ a_ ⟨e0_, e1_, trivial⟩ e2_
        have hc61_0 : bx61 (n + 3) = .cells [.sc (.bool false)] := (hf61 _ (by omega) (by omega) (by omega) (by omega)).trans t_8
        have hc61_1 : bx61 kr = .cells [.sc (.int .u64 r.id), .sc (.int .u64 r.key), .sc (.int .u32 r.x), .sc (.int .u32 r.y), .sc (.string r.v), .sc (.bool r.gh)] := (hf61 _ (by omega) (by omega) (by omega) (by omega)).trans t_8
        have hc61_2 : bx61 kt = .cells [.sc (.bool th0)] := (hf61 _ (by omega) (by omega) (by omega) (by omega)).trans t_8
        have hc61_3 : bx61 (n + 0) = .cells [.sc (.int .i64 oa.k), .sc (.int .u64 oa.key), .sc (.int .u32 oa.x), .sc (.int .u32 oa.y), .sc (.string oa.v), .sc (.int .u32 oa.a), .sc (.int .u32 oa.b), .sc (.int .u32 oa.c), .sc (.int .u32 oa.d), .sc (.int .i64 oa.n)] := (hf61 _ (by omega) (by omega) (by omega) (by omega)).trans t_8
        have hc61_4 : bx61 (n + 1) = .cells [.sc (.int .i64 ob.k), .sc (.int .u64 ob.key), .sc (.int .u32 ob.x), .sc (.int .u32 ob.y), .sc (.string ob.v), .sc (.int .u32 ob.a), .sc (.int .u32 ob.b), .sc (.int .u32 ob.c), .sc (.int .u32 ob.d), .sc (.int .i64 ob.n)] := (hf61 _ (by omega) (by omega) (by omega) (by omega)).trans t_8
        have hc61_5 : bx61 (n + 2) = .cells [.fn 14 [.ref kr 0, .ref kt 0]] := (hf61 _ (by omega) (by omega) (by omega) (by omega)).trans t_8
        have hc61_6 : bx61 (n60 + 0) = .cells [.sc (.int .i64 t60.k), .sc (.int .u64 t60.n), .sc (.int .i64 t60.m)] := (hf61 _ (by omega) (by omega) (by omega) (by omega)).trans t_8
        obtain ⟨t61, ht61, rfl⟩ := map_get hv61
        have hxb_ := al_ok hob hr hkb (List.mem_of_getElem? ht61)
        refine runs_keep (l' := [(16, .agg [.sc (.int .i64 t61.k), .sc (.int .u64 t61.n), .sc (.int .i64 t61.m)]), (6, .ref (n + 3) 0), (7, .ref (n60 + 0) 0)]) ?_ ?_
        · exact t_43
        refine runs_bump 40 ?_;refine runs_region ?_;refine rl1 (gn rfl) rfl rfl (step_allocc (k := n61 + 0) (zs := [.int .i64 0, .int .u64 0, .int .i64 0]) (cs := [.sc (.int .i64 0), .sc (.int .u64 0), .sc (.int .i64 0)]) rfl F.zero41 t_23 t_25 t_23) ⟨t_9, trivial⟩ (by omega) ?_;refine' rls (gn rfl) rfl (step_storeA rfl rfl rfl rfl F.agg41 ?hm ?hl) ⟨?hb, trivial⟩ ?hk ?_
        case hb => exact t_9
        case hm => exact t_4
        case hl => exact t_4
        case hk => omega
        refine runsL_nil ?_;refine ⟨rfl, t_24, fun r61 => ?_⟩;show Runs _ _ _ _ ⟨mk _, _ + _, upd _ _ _⟩ _;refine runs_block ?_;refine runs_seq ?_;refine runs_region ?_;refine rl0 (gn rfl) rfl rfl (step_fieldAddr (off := 0) rfl (ev_mk rfl) Try.underlying41 rfl F.sz39 rfl) trivial ?_;refine' rl0 (gn rfl) rfl rfl (step_load_agg rfl (ev_mk rfl) F.agg39 ?hc ?hl) ⟨?hb, trivial⟩ ?_
        case hb => exact t_9
        case hc => rfl
        case hl => exact t_4
        refine rl0 (gn rfl) rfl rfl (step_fieldAddr (off := 0) rfl (ev_mk rfl) Try.underlying41 rfl F.sz39 rfl) trivial ?_;refine' rl0 (gn rfl) rfl rfl (step_load_agg rfl (ev_mk rfl) F.agg39 ?hc ?hl) ⟨?hb, trivial⟩ ?_
        case hb => exact t_9
        case hc => rfl
        case hl => exact t_4
        refine rl0 (gn rfl) rfl rfl (step_eql39 rfl (ev_mk rfl) (ev_mk rfl)) trivial ?_;refine rl0 (gn rfl) rfl rfl (step_mv rfl rfl) trivial ?_;refine rl_bool (d := 22) rfl (fun h1 => ?_) (fun h1 => ?_)
        · skip
          refine rl0 (gy rfl rfl rfl rfl rfl rfl) rfl rfl (step_fieldAddr (off := 2) rfl (ev_mk rfl) Try.underlying41 rfl F.sz3 rfl) trivial ?_;refine' rl0 (gy rfl rfl rfl rfl rfl rfl) rfl rfl (step_load_one rfl (ev_mk rfl) F.one3 ?hv) ⟨?hb, trivial⟩ ?_
          case hb => exact t_9
          case hv => rfl
          refine rl0 (gy rfl rfl rfl rfl rfl rfl) rfl rfl (step_fieldAddr (off := 2) rfl (ev_mk rfl) Try.underlying41 rfl F.sz3 rfl) trivial ?_;refine' rl0 (gy rfl rfl rfl rfl rfl rfl) rfl rfl (step_load_one rfl (ev_mk rfl) F.one3 ?hv) ⟨?hb, trivial⟩ ?_
          case hb => exact t_9
          case hv => rfl
          refine rl0 (gy rfl rfl rfl rfl rfl rfl) rfl rfl (step_callc rfl Try.func35 rfl rfl rfl (tog_c hxa_.2.2 hxb_.2.2) t_2) trivial ?_;refine rl_know (d := 27) (c := true) rfl (bad_ne (all_at hca_ ht61) (rs_eq.1 (by assumption))) ?_;refine rl0 (gy rfl rfl rfl rfl rfl rfl) rfl rfl (step_unOp (c := .bool false) rfl (ev_mk rfl) (fun _ => rfl)) trivial ?_;refine rl0 (gn rfl) rfl rfl (step_pick rfl (ev_mk rfl) (ev_mk rfl)) trivial ?_;refine runsL_nil ?_;refine runs_cond false (ev_mk rfl) (fun h_ => nomatch h_) (fun _ => ?_);refine runs_skip ?_;refine ⟨t_28, t_9, fun k_ hk_ hl_ => ?_⟩;simp only [dL, updL, List.map_cons, List.map_nil]; exact ble t_59
        · skip
          refine rlk rfl rfl rfl rfl rfl (ngb rfl rfl) rfl rfl ?_;refine rlk rfl rfl rfl rfl rfl (ngb rfl rfl) rfl rfl ?_;refine rlk rfl rfl rfl rfl rfl (ngb rfl rfl) rfl rfl ?_;refine rlk rfl rfl rfl rfl rfl (ngb rfl rfl) rfl rfl ?_;refine rlk rfl rfl rfl rfl rfl (ngb rfl rfl) rfl rfl ?_;refine rlk rfl rfl rfl rfl rfl (ngb rfl rfl) rfl rfl ?_;refine rl0 (gn rfl) rfl rfl (step_pick rfl (ev_mk rfl) (ev_mk rfl)) trivial ?_;refine runsL_nil ?_;refine runs_cond false (ev_mk rfl) (fun h_ => nomatch h_) (fun _ => ?_);refine runs_skip ?_;refine ⟨t_28, t_9, fun k_ hk_ hl_ => ?_⟩;simp only [dL, updL, List.map_cons, List.map_nil]; exact ble t_59
      · intro bb61 b61 hb61
        simp only [dL, eM, updL, List.map_cons, List.map_nil] at hb61
        subst hb61
        refine ⟨t_19, t_8, fun k_ hk_ hl_ => ?_⟩;simp only [dL, updL, List.map_cons, List.map_nil]; by_cases e0_ : k_ = (n + 3); (focus subst e0_; refine bl_eq ?_; first | (refine' blec ?hb ?hl; (case hb => repeat (first | exact uE | assumption | refine uN (by omega) ?_ | fail)); (case hl => first | exact VLes.refl _ | ((repeat' (first | exact VLe.refl _ | exact VLe.own_sl _ _ _ | exact VLe.fl_sl _ _ | exact VLe.nil_sl _ | exact VLe.nil_fl _ | exact VLes.refl _ | exact .nil | refine VLe.tup ?_ | refine VLe.agg ?_ | refine .cons ?_ ?_ | (rw [Int.natCast_add]; exact VLe.refl _) | exact vle_int (by omega) | exact vle_bool t_67 | fail)); done))) | (refine ble ?_; (repeat (first | exact uE | assumption | refine uN (by omega) ?_ | fail)); done)); refine bl_ne e0_ ?_; exact ble t_62
    · skip
      have hei_ : i60 = i := by omega
      have htw_ : t60 = x := by rw [hei_] at ht60; exact Option.some.inj (ht60.symm.trans hx)
      refine' rl0 (gn rfl) rfl rfl (step_load_all rfl rfl F.agg27 ?hl) ⟨?hb, trivial⟩ ?_
      case hb => exact t_8
      case hl => exact t_4
      refine' rl0 (gn rfl) rfl rfl (step_load_one rfl (ev_mk rfl) F.one32 ?hv) ⟨?hb, trivial⟩ ?_
      case hb => exact t_8
      case hv => rfl
      refine rl2 (gn rfl) rfl rfl (step_callc rfl Try.func9 rfl rfl rfl (nall_14 ob (k2 := (n60 + 1)) (kf := (n60 + 2)) (by omega)) t_2) ⟨t_8, t_8, trivial⟩ (by omega) (by omega) ?_;refine runsL_nil ?_;refine runs_block ?_;have hfd0_ := V.bd_mono (n := n) (m := n60 + 40) (by omega) _ hfb0_;have hfd1_ := V.bd_mono (n := n) (m := n60 + 40) (by omega) _ hfb1_;refine runs_rangeLR (k0 := n + 6) (f := 24) (caps := [.ref (n60 + 1) 0, .ref (n60 + 2) 0]) (xs := (allL ob r tb).map enW) (Dl := [(n + 3, fun i61 => .cells [.sc (.bool false)])]) (El := [(n60 + 1, .cells (opC ob), fun m_ b_ => .cells (opC ob)), (n60 + 2, .cells [.fn 14 [.ref kr 0, .ref kt 0]], fun m_ b_ => .cells [.fn 14 [.ref kr 0, .ref kt 0]])]) (kl := n60 + 3) (m := j + 1) (brk := true) (ex := .ret) hR60 hl60 t_34 t_8 rfl (.inl rfl) Try.func24 rfl rfl (all_14 ob r tb th0 htb (by omega) hob hr) ⟨⟨t_18, t_18, ⟨t_18, trivial⟩, ⟨t_18, t_18, trivial⟩, t_8⟩, ⟨t_18, t_18, ⟨t_18, trivial⟩, ⟨t_18, t_18, trivial⟩, t_8⟩, trivial⟩ t_8 (by omega) (by have := (List.getElem?_eq_some_iff.1 hy).1; simp; omega) (fun _ => ⟨by omega, _, rfl⟩) (fun h_ => nomatch h_) (fun v_ hv_ => t_26) rfl ⟨trivial, trivial⟩ ⟨⟨t_18, t_18, ⟨t_18, t_18, trivial⟩, t_21⟩, trivial⟩ ⟨⟨t_18, t_18, t_50⟩, ⟨t_18, t_18, t_50⟩, trivial⟩ (fun i61 => ⟨bdb_cells t_3, trivial⟩) ⟨bdb_cells t_3, bdb_cells t_3, trivial⟩ ?_ ?_
      · intro i61 v61 hi61 hv61 B61 n61 lr61 bx61 hR61 hl61 hk61 ho61 he61 hn61 hd61 hD61 hfr61
        have hf61 : ∀ k_, k_ < _ → k_ ≠ n + 3 → k_ ≠ n60 + 1 → k_ ≠ n60 + 2 → k_ ≠ n60 + 3 → bx61 k_ = _ := fun k_ a_ e0_ e1_ e2_ e3_ => hfr61 k_ a_ ⟨e0_, e1_, e2_, trivial⟩ e3_
        have hb61_0 : bx61 (n + 3) = .cells [.sc (.bool false)] := hD61.1
        have hc61_1 : bx61 kr = .cells [.sc (.int .u64 r.id), .sc (.int .u64 r.key), .sc (.int .u32 r.x), .sc (.int .u32 r.y), .sc (.string r.v), .sc (.bool r.gh)] := (hf61 _ (by omega) (by omega) (by omega) (by omega) (by omega)).trans t_8
        have hc61_2 : bx61 kt = .cells [.sc (.bool th0)] := (hf61 _ (by omega) (by omega) (by omega) (by omega) (by omega)).trans t_8
        have hc61_3 : bx61 (n + 0) = .cells [.sc (.int .i64 oa.k), .sc (.int .u64 oa.key), .sc (.int .u32 oa.x), .sc (.int .u32 oa.y), .sc (.string oa.v), .sc (.int .u32 oa.a), .sc (.int .u32 oa.b), .sc (.int .u32 oa.c), .sc (.int .u32 oa.d), .sc (.int .i64 oa.n)] := (hf61 _ (by omega) (by omega) (by omega) (by omega) (by omega)).trans t_8
        have hc61_4 : bx61 (n + 1) = .cells [.sc (.int .i64 ob.k), .sc (.int .u64 ob.key), .sc (.int .u32 ob.x), .sc (.int .u32 ob.y), .sc (.string ob.v), .sc (.int .u32 ob.a), .sc (.int .u32 ob.b), .sc (.int .u32 ob.c), .sc (.int .u32 ob.d), .sc (.int .i64 ob.n)] := (hf61 _ (by omega) (by omega) (by omega) (by omega) (by omega)).trans t_8
        have hc61_5 : bx61 (n + 2) = .cells [.fn 14 [.ref kr 0, .ref kt 0]] := (hf61 _ (by omega) (by omega) (by omega) (by omega) (by omega)).trans t_8
        have hc61_6 : bx61 (n60 + 0) = .cells [.sc (.int .i64 t60.k), .sc (.int .u64 t60.n), .sc (.int .i64 t60.m)] := (hf61 _ (by omega) (by omega) (by omega) (by omega) (by omega)).trans t_8
        obtain ⟨t61, ht61, rfl⟩ := map_get hv61
        have hxb_ := al_ok hob hr hkb (List.mem_of_getElem? ht61)
        refine runs_keep (l' := [(16, .agg [.sc (.int .i64 t61.k), .sc (.int .u64 t61.n), .sc (.int .i64 t61.m)]), (6, .ref (n + 3) 0), (7, .ref (n60 + 0) 0)]) ?_ ?_
        · exact t_43
        refine runs_bump 40 ?_;refine runs_region ?_;refine rl1 (gn rfl) rfl rfl (step_allocc (k := n61 + 0) (zs := [.int .i64 0, .int .u64 0, .int .i64 0]) (cs := [.sc (.int .i64 0), .sc (.int .u64 0), .sc (.int .i64 0)]) rfl F.zero41 t_23 t_25 t_23) ⟨t_9, trivial⟩ (by omega) ?_;refine' rls (gn rfl) rfl (step_storeA rfl rfl rfl rfl F.agg41 ?hm ?hl) ⟨?hb, trivial⟩ ?hk ?_
        case hb => exact t_9
        case hm => exact t_4
        case hl => exact t_4
        case hk => omega
        refine runsL_nil ?_;refine ⟨rfl, t_24, fun r61 => ?_⟩;show Runs _ _ _ _ ⟨mk _, _ + _, upd _ _ _⟩ _;refine runs_block ?_;refine runs_seq ?_;refine runs_region ?_;rcases Nat.lt_or_ge i61 j with hcs_ | hcs_
        · skip
          have hcb_ : (!badW t60 t61) = true := by rw [htw_]; exact hylo i61 t61 hcs_ ht61
          refine rl0 (gn rfl) rfl rfl (step_fieldAddr (off := 0) rfl (ev_mk rfl) Try.underlying41 rfl F.sz39 rfl) trivial ?_;refine' rl0 (gn rfl) rfl rfl (step_load_agg rfl (ev_mk rfl) F.agg39 ?hc ?hl) ⟨?hb, trivial⟩ ?_
          case hb => exact t_9
          case hc => rfl
          case hl => exact t_4
          refine rl0 (gn rfl) rfl rfl (step_fieldAddr (off := 0) rfl (ev_mk rfl) Try.underlying41 rfl F.sz39 rfl) trivial ?_;refine' rl0 (gn rfl) rfl rfl (step_load_agg rfl (ev_mk rfl) F.agg39 ?hc ?hl) ⟨?hb, trivial⟩ ?_
          case hb => exact t_9
          case hc => rfl
          case hl => exact t_4
          refine rl0 (gn rfl) rfl rfl (step_eql39 rfl (ev_mk rfl) (ev_mk rfl)) trivial ?_;refine rl0 (gn rfl) rfl rfl (step_mv rfl rfl) trivial ?_;refine rl_bool (d := 22) rfl (fun h1 => ?_) (fun h1 => ?_)
          · skip
            refine rl0 (gy rfl rfl rfl rfl rfl rfl) rfl rfl (step_fieldAddr (off := 2) rfl (ev_mk rfl) Try.underlying41 rfl F.sz3 rfl) trivial ?_;refine' rl0 (gy rfl rfl rfl rfl rfl rfl) rfl rfl (step_load_one rfl (ev_mk rfl) F.one3 ?hv) ⟨?hb, trivial⟩ ?_
            case hb => exact t_9
            case hv => rfl
            refine rl0 (gy rfl rfl rfl rfl rfl rfl) rfl rfl (step_fieldAddr (off := 2) rfl (ev_mk rfl) Try.underlying41 rfl F.sz3 rfl) trivial ?_;refine' rl0 (gy rfl rfl rfl rfl rfl rfl) rfl rfl (step_load_one rfl (ev_mk rfl) F.one3 ?hv) ⟨?hb, trivial⟩ ?_
            case hb => exact t_9
            case hv => rfl
            refine rl0 (gy rfl rfl rfl rfl rfl rfl) rfl rfl (step_callc rfl Try.func35 rfl rfl rfl (tog_c hxa_.2.2 hxb_.2.2) t_2) trivial ?_;refine rl_know (d := 27) (c := true) rfl (bad_ne hcb_ (rs_eq.1 (by assumption))) ?_;refine rl0 (gy rfl rfl rfl rfl rfl rfl) rfl rfl (step_unOp (c := .bool false) rfl (ev_mk rfl) (fun _ => rfl)) trivial ?_;refine rl0 (gn rfl) rfl rfl (step_pick rfl (ev_mk rfl) (ev_mk rfl)) trivial ?_;refine runsL_nil ?_;refine runs_cond false (ev_mk rfl) (fun h_ => nomatch h_) (fun _ => ?_);refine runs_skip ?_;refine ⟨t_19, t_9, fun k_ hk_ hl_ => ?_⟩;simp only [dL, updL, List.map_cons, List.map_nil]; by_cases e0_ : k_ = (n + 3); (focus subst e0_; refine bl_eq ?_; first | (refine' blec ?hb ?hl; (case hb => repeat (first | exact uE | assumption | refine uN (by omega) ?_ | fail)); (case hl => first | exact VLes.refl _ | ((repeat' (first | exact VLe.refl _ | exact VLe.own_sl _ _ _ | exact VLe.fl_sl _ _ | exact VLe.nil_sl _ | exact VLe.nil_fl _ | exact VLes.refl _ | exact .nil | refine VLe.tup ?_ | refine VLe.agg ?_ | refine .cons ?_ ?_ | (rw [Int.natCast_add]; exact VLe.refl _) | exact vle_int (by omega) | exact vle_bool t_67 | fail)); done))) | (refine ble ?_; (repeat (first | exact uE | assumption | refine uN (by omega) ?_ | fail)); done)); refine bl_ne e0_ ?_; exact ble t_54
          · skip
            refine rlk rfl rfl rfl rfl rfl (ngb rfl rfl) rfl rfl ?_;refine rlk rfl rfl rfl rfl rfl (ngb rfl rfl) rfl rfl ?_;refine rlk rfl rfl rfl rfl rfl (ngb rfl rfl) rfl rfl ?_;refine rlk rfl rfl rfl rfl rfl (ngb rfl rfl) rfl rfl ?_;refine rlk rfl rfl rfl rfl rfl (ngb rfl rfl) rfl rfl ?_;refine rlk rfl rfl rfl rfl rfl (ngb rfl rfl) rfl rfl ?_;refine rl0 (gn rfl) rfl rfl (step_pick rfl (ev_mk rfl) (ev_mk rfl)) trivial ?_;refine runsL_nil ?_;refine runs_cond false (ev_mk rfl) (fun h_ => nomatch h_) (fun _ => ?_);refine runs_skip ?_;refine ⟨t_19, t_9, fun k_ hk_ hl_ => ?_⟩;simp only [dL, updL, List.map_cons, List.map_nil]; by_cases e0_ : k_ = (n + 3); (focus subst e0_; refine bl_eq ?_; first | (refine' blec ?hb ?hl; (case hb => repeat (first | exact uE | assumption | refine uN (by omega) ?_ | fail)); (case hl => first | exact VLes.refl _ | ((repeat' (first | exact VLe.refl _ | exact VLe.own_sl _ _ _ | exact VLe.fl_sl _ _ | exact VLe.nil_sl _ | exact VLe.nil_fl _ | exact VLes.refl _ | exact .nil | refine VLe.tup ?_ | refine VLe.agg ?_ | refine .cons ?_ ?_ | (rw [Int.natCast_add]; exact VLe.refl _) | exact vle_int (by omega) | exact vle_bool t_67 | fail)); done))) | (refine ble ?_; (repeat (first | exact uE | assumption | refine uN (by omega) ?_ | fail)); done)); refine bl_ne e0_ ?_; exact ble t_54
        · skip
          have hej_ : i61 = j := by omega
          have htv_ : t61 = y := by rw [hej_] at ht61; exact Option.some.inj (ht61.symm.trans hy)
          have hcb_ : (!badW t60 t61) = false := by rw [htw_, htv_]; exact hby_
          refine rl0 (gn rfl) rfl rfl (step_fieldAddr (off := 0) rfl (ev_mk rfl) Try.underlying41 rfl F.sz39 rfl) trivial ?_;refine' rl0 (gn rfl) rfl rfl (step_load_agg rfl (ev_mk rfl) F.agg39 ?hc ?hl) ⟨?hb, trivial⟩ ?_
          case hb => exact t_9
          case hc => rfl
          case hl => exact t_4
          refine rl0 (gn rfl) rfl rfl (step_fieldAddr (off := 0) rfl (ev_mk rfl) Try.underlying41 rfl F.sz39 rfl) trivial ?_;refine' rl0 (gn rfl) rfl rfl (step_load_agg rfl (ev_mk rfl) F.agg39 ?hc ?hl) ⟨?hb, trivial⟩ ?_
          case hb => exact t_9
          case hc => rfl
          case hl => exact t_4
          refine rl0 (gn rfl) rfl rfl (step_eql39 rfl (ev_mk rfl) (ev_mk rfl)) trivial ?_;refine rl_know (d := 21) (c := true) rfl (rs_eq.2 (bad_yes hcb_).1) ?_;refine rl0 (gn rfl) rfl rfl (step_mv rfl rfl) trivial ?_;refine rl0 (gy rfl rfl rfl rfl rfl rfl) rfl rfl (step_fieldAddr (off := 2) rfl (ev_mk rfl) Try.underlying41 rfl F.sz3 rfl) trivial ?_;refine' rl0 (gy rfl rfl rfl rfl rfl rfl) rfl rfl (step_load_one rfl (ev_mk rfl) F.one3 ?hv) ⟨?hb, trivial⟩ ?_
          case hb => exact t_9
          case hv => rfl
          refine rl0 (gy rfl rfl rfl rfl rfl rfl) rfl rfl (step_fieldAddr (off := 2) rfl (ev_mk rfl) Try.underlying41 rfl F.sz3 rfl) trivial ?_;refine' rl0 (gy rfl rfl rfl rfl rfl rfl) rfl rfl (step_load_one rfl (ev_mk rfl) F.one3 ?hv) ⟨?hb, trivial⟩ ?_
          case hb => exact t_9
          case hv => rfl
          refine rl0 (gy rfl rfl rfl rfl rfl rfl) rfl rfl (step_callc rfl Try.func35 rfl rfl rfl (tog_c hxa_.2.2 hxb_.2.2) t_2) trivial ?_;refine rl_know (d := 27) (c := false) rfl ((bad_yes hcb_).2) ?_;refine rl0 (gy rfl rfl rfl rfl rfl rfl) rfl rfl (step_unOp (c := .bool true) rfl (ev_mk rfl) (fun _ => rfl)) trivial ?_;refine rl0 (gn rfl) rfl rfl (step_pick rfl (ev_mk rfl) (ev_mk rfl)) trivial ?_;refine runsL_nil ?_;refine runs_cond true (ev_mk rfl) (fun _ => ?_) (fun h_ => nomatch h_);refine runs_seq ?_;refine runs_region ?_;refine' rls (gn rfl) rfl (step_store1 rfl rfl rfl rfl F.one4 rfl rfl ?hl ?hc) ⟨?hb, trivial⟩ ?hk ?_
          case hb => exact t_9
          case hl => exact t_22
          case hc => exact t_27
          case hk => omega
          refine runsL_nil ?_;refine runs_ret ?_;refine ⟨t_19, t_9, fun k_ hk_ hl_ => ?_⟩;simp only [dL, updL, List.map_cons, List.map_nil]; by_cases e0_ : k_ = (n + 3); (focus subst e0_; refine bl_eq ?_; first | (refine' blec ?hb ?hl; (case hb => repeat (first | exact uE | assumption | refine uN (by omega) ?_ | fail)); (case hl => first | exact VLes.refl _ | ((repeat' (first | exact VLe.refl _ | exact VLe.own_sl _ _ _ | exact VLe.fl_sl _ _ | exact VLe.nil_sl _ | exact VLe.nil_fl _ | exact VLes.refl _ | exact .nil | refine VLe.tup ?_ | refine VLe.agg ?_ | refine .cons ?_ ?_ | (rw [Int.natCast_add]; exact VLe.refl _) | exact vle_int (by omega) | exact vle_bool t_67 | fail)); done))) | (refine ble ?_; (repeat (first | exact uE | assumption | refine uN (by omega) ?_ | fail)); done)); refine bl_ne e0_ ?_; exact ble t_54
      · intro bb61 b61 hb61
        simp only [dL, eM, updL, List.map_cons, List.map_nil] at hb61
        subst hb61
        refine ⟨t_19, t_8, fun k_ hk_ hl_ => ?_⟩;simp only [dL, updL, List.map_cons, List.map_nil]; by_cases e0_ : k_ = (n + 3); (focus subst e0_; refine bl_eq ?_; first | (refine' blec ?hb ?hl; (case hb => repeat (first | exact uE | assumption | refine uN (by omega) ?_ | fail)); (case hl => first | exact VLes.refl _ | ((repeat' (first | exact VLe.refl _ | exact VLe.own_sl _ _ _ | exact VLe.fl_sl _ _ | exact VLe.nil_sl _ | exact VLe.nil_fl _ | exact VLes.refl _ | exact .nil | refine VLe.tup ?_ | refine VLe.agg ?_ | refine .cons ?_ ?_ | (rw [Int.natCast_add]; exact VLe.refl _) | exact vle_int (by omega) | exact vle_bool t_67 | fail)); done))) | (refine ble ?_; (repeat (first | exact uE | assumption | refine uN (by omega) ?_ | fail)); done)); refine bl_ne e0_ ?_; exact ble t_62
  · intro bb60 b60 hb60
    simp only [dL, eM, updL, List.map_cons, List.map_nil] at hb60
    subst hb60
    refine ⟨t_11, fin_mkg (resc1 rfl t_0 F.one4 rfl res0) ?_ ?_ ?_ ?_ ?_⟩
    · exact t_1
    · exact t_3
    · exact t_6
    · exact t_17
    · exact t_3
theorem tg53 : tgF 5 3 = false := by decide +kernel
theorem tg55 : tgF 5 5 = false := by decide +kernel
theorem tg35 : tgF 3 5 = false := by decide +kernel
theorem tg23 : tgF 2 3 = false := by decide +kernel
theorem tg32 : tgF 3 2 = false := by decide +kernel
theorem ap_f {l m : List Wt} {x y : Wt} (hx : x ∈ l) (hy : y ∈ m) (h : x.k = y.k ∧ x.n = y.n) (ht : tgF x.m y.m = false) : apF l m = false := by
  cases ha : apF l m with
  | false => rfl
  | true =>
    have := List.all_eq_true.1 (List.all_eq_true.1 ha x hx) y hy
    rw [bad_ne this h] at ht; cases ht
theorem tou_in {x y a b c d : Int} (hx : U4 x) (hy : U4 y) (g0 : U4 a) (g1 : U4 b) (g2 : U4 c) (g3 : U4 d) (h : x ≥ a ∧ x ≤ c ∧ y ≥ b ∧ y ≤ d) : tiF x y ∈ touL a b c d := by
  refine (mem_tou g0 g1 g2 g3).2 ⟨(ti_bd hx hy).1, by have := (ti_bd hx hy).2; omega, decide_eq_true ?_⟩;unfold U4 at *; unfold tiF; omega
theorem kp_no {a b : Op1} {r : Rc1} {th0 : Bool} {x y : Int} (hoa : OkO a) (hob : OkO b) (hr : OkR r)
    (ha : (a.k = 1 ∧ x = a.x ∧ y = a.y) ∨ (a.k = 3 ∧ th0 = true ∧ r.key = a.key ∧ x = r.x ∧ y = r.y))
    (hb : ((b.k = 1 ∨ b.k = 2 ∨ b.k = 3) ∧ b.key = a.key) ∨ ((b.k = 4 ∨ b.k = 5) ∧ x ≥ b.a ∧ x ≤ b.c ∧ y ≥ b.b ∧ y ≤ b.d)) :
    apF (allL a r (th0 && decide (a.key = r.key))) (allL b r (th0 && decide (b.key = r.key))) = false ∧ apF (allL b r (th0 && decide (b.key = r.key))) (allL a r (th0 && decide (a.key = r.key))) = false := by
  have hA : (⟨2, a.key, 5⟩ : Wt) ∈ allL a r (th0 && decide (a.key = r.key)) ∧ (⟨1, tiF x y, 2⟩ : Wt) ∈ allL a r (th0 && decide (a.key = r.key)) ∧ U4 x ∧ U4 y := by
    rcases ha with ⟨h1, rfl, rfl⟩ | ⟨h1, h2, h3, rfl, rfl⟩
    · rw [al1 h1]; exact ⟨by simp, by simp, hoa.1, hoa.2.1⟩
    · rw [al3t h1 (by rw [h2, decide_eq_true h3.symm]; rfl)]; exact ⟨by simp, by simp, hr.1, hr.2⟩
  rcases hb with ⟨h1, h2⟩ | ⟨h1, h2⟩
  · have hB : ∃ m, (⟨2, a.key, m⟩ : Wt) ∈ allL b r (th0 && decide (b.key = r.key)) ∧ (m = 3 ∨ m = 5) := by
      rw [← h2]
      rcases h1 with h1 | h1 | h1
      · rw [al1 h1]; exact ⟨5, by simp, .inr rfl⟩
      · rw [al2 h1]; exact ⟨3, by simp, .inl rfl⟩
      · cases hq : (th0 && decide (b.key = r.key)) with
        | true => rw [al3t h1 rfl]; exact ⟨5, by simp, .inr rfl⟩
        | false => rw [al3f h1 rfl]; exact ⟨5, by simp, .inr rfl⟩
    obtain ⟨m, hm, hm2⟩ := hB
    exact ⟨ap_f hA.1 hm ⟨rfl, rfl⟩ (by rcases hm2 with rfl | rfl <;> first | exact tg53 | exact tg55), ap_f hm hA.1 ⟨rfl, rfl⟩ (by rcases hm2 with rfl | rfl <;> first | exact tg35 | exact tg55)⟩
  · have hB : (⟨1, tiF x y, 3⟩ : Wt) ∈ allL b r (th0 && decide (b.key = r.key)) := by
      rw [al4 h1]
      exact List.mem_cons_of_mem _ (List.mem_map.2 ⟨_, tou_in hA.2.2.1 hA.2.2.2 hob.2.2.1 hob.2.2.2.1 hob.2.2.2.2.1 hob.2.2.2.2.2 h2, rfl⟩)
    exact ⟨ap_f hA.2.1 hB ⟨rfl, rfl⟩ tg23, ap_f hB hA.2.1 ⟨rfl, rfl⟩ tg32⟩
def tcF (b : Op1) (x y : Int) : Bool := decide (x ≥ b.a ∧ x ≤ b.c ∧ y ≥ b.b ∧ y ≤ b.d)
set_option maxRecDepth 100000 in
set_option maxHeartbeats 4000000 in
theorem tch_c (b : Op1) {key x y : Int} (h45 : b.k = 4 ∨ b.k = 5) : Does Try.prog 15 [.agg (opC b), .sc (.int .u64 key), .sc (.int .u32 x), .sc (.int .u32 y)] [] [] (.sc (.bool (tcF b x y))) := by
  refine does_mkg 40 Try.func15 rfl rfl rfl (fun n B bx hd hpre hup hvs hbx hgx => ?_);refine runs_seq ?_;refine runs_region ?_;refine rl1 (gn rfl) rfl rfl (step_box_agg (k := n + 0) rfl rfl) ⟨t_0, trivial⟩ (by omega) ?_;refine rl0 (gn rfl) rfl rfl (step_as rfl rfl) trivial ?_;refine runsL_nil ?_;refine runs_seq ?_;refine runs_seq ?_;refine runs_region ?_;refine rl0 (gn rfl) rfl rfl (step_fieldAddr (off := 0) rfl (ev_mk rfl) Try.underlying27 rfl F.sz3 rfl) trivial ?_;refine' rl0 (gn rfl) rfl rfl (step_load_one rfl (ev_mk rfl) F.one3 ?hv) ⟨?hb, trivial⟩ ?_
  case hb => exact t_0
  case hv => rfl
  refine runsL_nil ?_;refine runs_block ?_;refine runs_seq ?_;refine runs_region ?_;refine rl_eql (gn rfl) rfl rfl rfl rfl rfl (fun h1 => ?_) (fun h1 => ?_)
  · exact False.elim (by omega)
  refine rl0 (gn rfl) rfl rfl (step_as rfl rfl) trivial ?_;refine runsL_nil ?_;refine runs_cond false (ev_mk rfl) (fun h_ => nomatch h_) (fun _ => ?_);refine runs_seq ?_;refine runs_seq ?_;refine runs_region ?_;refine rl_eql (gn rfl) rfl rfl rfl rfl rfl (fun h2 => ?_) (fun h2 => ?_)
  · exact False.elim (by omega)
  refine rl0 (gn rfl) rfl rfl (step_as rfl rfl) trivial ?_;refine runsL_nil ?_;refine runs_cond false (ev_mk rfl) (fun h_ => nomatch h_) (fun _ => ?_);refine runs_region ?_;refine rl_eql (gn rfl) rfl rfl rfl rfl rfl (fun h3 => ?_) (fun h3 => ?_)
  · exact False.elim (by omega)
  refine rl0 (gn rfl) rfl rfl (step_as rfl rfl) trivial ?_;refine runsL_nil ?_;refine runs_cond false (ev_mk rfl) (fun h_ => nomatch h_) (fun _ => ?_);refine runs_seq ?_;refine runs_seq ?_;refine runs_region ?_;refine rl_eql (gn rfl) rfl rfl rfl rfl rfl (fun h4 => ?_) (fun h4 => ?_)
  · skip
    refine rl0 (gn rfl) rfl rfl (step_as rfl rfl) trivial ?_;refine runsL_nil ?_;refine runs_cond true (ev_mk rfl) (fun _ => ?_) (fun h_ => nomatch h_);refine runs_skip ?_;refine runs_cond true (ev_mk rfl) (fun _ => ?_) (fun h_ => nomatch h_);refine runs_seq ?_;refine runs_region ?_;refine rl0 (gn rfl) rfl rfl (step_mv rfl rfl) trivial ?_;refine rl0 (gn rfl) rfl rfl (step_fieldAddr (off := 5) rfl (ev_mk rfl) Try.underlying27 rfl F.sz25 rfl) trivial ?_;refine rl0 (gn rfl) rfl rfl (step_fieldAddr (off := 0) rfl (ev_mk rfl) Try.underlying25 rfl F.sz23 rfl) trivial ?_;refine' rl0 (gn rfl) rfl rfl (step_load_one rfl (ev_mk rfl) F.one23 ?hv) ⟨?hb, trivial⟩ ?_
    case hb => exact t_0
    case hv => rfl
    refine rl_geq (gn rfl) rfl rfl rfl rfl rfl (fun h5 => ?_) (fun h5 => ?_)
    · skip
      refine rl0 (gn rfl) rfl rfl (step_mv rfl rfl) trivial ?_;refine rl0 (gy rfl rfl rfl rfl rfl rfl) rfl rfl (step_mv rfl rfl) trivial ?_;refine rl0 (gy rfl rfl rfl rfl rfl rfl) rfl rfl (step_fieldAddr (off := 5) rfl (ev_mk rfl) Try.underlying27 rfl F.sz25 rfl) trivial ?_;refine rl0 (gy rfl rfl rfl rfl rfl rfl) rfl rfl (step_fieldAddr (off := 2) rfl (ev_mk rfl) Try.underlying25 rfl F.sz23 rfl) trivial ?_;refine' rl0 (gy rfl rfl rfl rfl rfl rfl) rfl rfl (step_load_one rfl (ev_mk rfl) F.one23 ?hv) ⟨?hb, trivial⟩ ?_
      case hb => exact t_0
      case hv => rfl
      refine rl_leq (gy rfl rfl rfl rfl rfl rfl) rfl rfl rfl rfl rfl (fun h6 => ?_) (fun h6 => ?_)
      · skip
        refine rl0 (gn rfl) rfl rfl (step_pick rfl (ev_mk rfl) (ev_mk rfl)) trivial ?_;refine rl0 (gn rfl) rfl rfl (step_mv rfl rfl) trivial ?_;refine rl0 (gy rfl rfl rfl rfl rfl rfl) rfl rfl (step_mv rfl rfl) trivial ?_;refine rl0 (gy rfl rfl rfl rfl rfl rfl) rfl rfl (step_fieldAddr (off := 5) rfl (ev_mk rfl) Try.underlying27 rfl F.sz25 rfl) trivial ?_;refine rl0 (gy rfl rfl rfl rfl rfl rfl) rfl rfl (step_fieldAddr (off := 1) rfl (ev_mk rfl) Try.underlying25 rfl F.sz23 rfl) trivial ?_;refine' rl0 (gy rfl rfl rfl rfl rfl rfl) rfl rfl (step_load_one rfl (ev_mk rfl) F.one23 ?hv) ⟨?hb, trivial⟩ ?_
        case hb => exact t_0
        case hv => rfl
        refine rl_geq (gy rfl rfl rfl rfl rfl rfl) rfl rfl rfl rfl rfl (fun h7 => ?_) (fun h7 => ?_)
        · skip
          refine rl0 (gn rfl) rfl rfl (step_pick rfl (ev_mk rfl) (ev_mk rfl)) trivial ?_;refine rl0 (gn rfl) rfl rfl (step_mv rfl rfl) trivial ?_;refine rl0 (gy rfl rfl rfl rfl rfl rfl) rfl rfl (step_mv rfl rfl) trivial ?_;refine rl0 (gy rfl rfl rfl rfl rfl rfl) rfl rfl (step_fieldAddr (off := 5) rfl (ev_mk rfl) Try.underlying27 rfl F.sz25 rfl) trivial ?_;refine rl0 (gy rfl rfl rfl rfl rfl rfl) rfl rfl (step_fieldAddr (off := 3) rfl (ev_mk rfl) Try.underlying25 rfl F.sz23 rfl) trivial ?_;refine' rl0 (gy rfl rfl rfl rfl rfl rfl) rfl rfl (step_load_one rfl (ev_mk rfl) F.one23 ?hv) ⟨?hb, trivial⟩ ?_
          case hb => exact t_0
          case hv => rfl
          refine rl_leq (gy rfl rfl rfl rfl rfl rfl) rfl rfl rfl rfl rfl (fun h8 => ?_) (fun h8 => ?_)
          · skip
            refine rl0 (gn rfl) rfl rfl (step_pick rfl (ev_mk rfl) (ev_mk rfl)) trivial ?_;refine rl0 (gn rfl) rfl rfl (step_as rfl rfl) trivial ?_;refine runsL_nil ?_;refine runs_ret ?_
            first | (have hem_ : true = tcF b x y := (decide_eq_true (by omega)).symm) | (have hem_ : false = tcF b x y := (decide_eq_false (by omega)).symm)
            refine ⟨t_11, fin_mkg (rest rfl res0) ?_ ?_ ?_ ?_ ?_⟩
            · exact t_1
            · exact t_3
            · exact t_6
            · exact t_17
            · exact t_3
          · skip
            refine rl0 (gn rfl) rfl rfl (step_pick rfl (ev_mk rfl) (ev_mk rfl)) trivial ?_;refine rl0 (gn rfl) rfl rfl (step_as rfl rfl) trivial ?_;refine runsL_nil ?_;refine runs_ret ?_
            first | (have hem_ : true = tcF b x y := (decide_eq_true (by omega)).symm) | (have hem_ : false = tcF b x y := (decide_eq_false (by omega)).symm)
            refine ⟨t_11, fin_mkg (rest rfl res0) ?_ ?_ ?_ ?_ ?_⟩
            · exact t_1
            · exact t_3
            · exact t_6
            · exact t_17
            · exact t_3
        · skip
          refine rl0 (gn rfl) rfl rfl (step_pick rfl (ev_mk rfl) (ev_mk rfl)) trivial ?_;refine rl0 (gn rfl) rfl rfl (step_mv rfl rfl) trivial ?_;refine rlk rfl rfl rfl rfl rfl (ngb rfl rfl) rfl rfl ?_;refine rlk rfl rfl rfl rfl rfl (ngb rfl rfl) rfl rfl ?_;refine rlk rfl rfl rfl rfl rfl (ngb rfl rfl) rfl rfl ?_;refine rlk rfl rfl rfl rfl rfl (ngb rfl rfl) rfl rfl ?_;refine rlk rfl rfl rfl rfl rfl (ngb rfl rfl) rfl rfl ?_;refine rl0 (gn rfl) rfl rfl (step_pick rfl (ev_mk rfl) (ev_mk rfl)) trivial ?_;refine rl0 (gn rfl) rfl rfl (step_as rfl rfl) trivial ?_;refine runsL_nil ?_;refine runs_ret ?_
          first | (have hem_ : true = tcF b x y := (decide_eq_true (by omega)).symm) | (have hem_ : false = tcF b x y := (decide_eq_false (by omega)).symm)
          refine ⟨t_11, fin_mkg (rest rfl res0) ?_ ?_ ?_ ?_ ?_⟩
          · exact t_1
          · exact t_3
          · exact t_6
          · exact t_17
          · exact t_3
      · skip
        refine rl0 (gn rfl) rfl rfl (step_pick rfl (ev_mk rfl) (ev_mk rfl)) trivial ?_;refine rl0 (gn rfl) rfl rfl (step_mv rfl rfl) trivial ?_;refine rlk rfl rfl rfl rfl rfl (ngb rfl rfl) rfl rfl ?_;refine rlk rfl rfl rfl rfl rfl (ngb rfl rfl) rfl rfl ?_;refine rlk rfl rfl rfl rfl rfl (ngb rfl rfl) rfl rfl ?_;refine rlk rfl rfl rfl rfl rfl (ngb rfl rfl) rfl rfl ?_;refine rlk rfl rfl rfl rfl rfl (ngb rfl rfl) rfl rfl ?_;refine rl0 (gn rfl) rfl rfl (step_pick rfl (ev_mk rfl) (ev_mk rfl)) trivial ?_;refine rl0 (gn rfl) rfl rfl (step_mv rfl rfl) trivial ?_;refine rlk rfl rfl rfl rfl rfl (ngb rfl rfl) rfl rfl ?_;refine rlk rfl rfl rfl rfl rfl (ngb rfl rfl) rfl rfl ?_;refine rlk rfl rfl rfl rfl rfl (ngb rfl rfl) rfl rfl ?_;refine rlk rfl rfl rfl rfl rfl (ngb rfl rfl) rfl rfl ?_;refine rlk rfl rfl rfl rfl rfl (ngb rfl rfl) rfl rfl ?_;refine rl0 (gn rfl) rfl rfl (step_pick rfl (ev_mk rfl) (ev_mk rfl)) trivial ?_;refine rl0 (gn rfl) rfl rfl (step_as rfl rfl) trivial ?_;refine runsL_nil ?_;refine runs_ret ?_
        first | (have hem_ : true = tcF b x y := (decide_eq_true (by omega)).symm) | (have hem_ : false = tcF b x y := (decide_eq_false (by omega)).symm)
        refine ⟨t_11, fin_mkg (rest rfl res0) ?_ ?_ ?_ ?_ ?_⟩
        · exact t_1
        · exact t_3
        · exact t_6
        · exact t_17
        · exact t_3
    · skip
      refine rl0 (gn rfl) rfl rfl (step_mv rfl rfl) trivial ?_;refine rlk rfl rfl rfl rfl rfl (ngb rfl rfl) rfl rfl ?_;refine rlk rfl rfl rfl rfl rfl (ngb rfl rfl) rfl rfl ?_;refine rlk rfl rfl rfl rfl rfl (ngb rfl rfl) rfl rfl ?_;refine rlk rfl rfl rfl rfl rfl (ngb rfl rfl) rfl rfl ?_;refine rlk rfl rfl rfl rfl rfl (ngb rfl rfl) rfl rfl ?_;refine rl0 (gn rfl) rfl rfl (step_pick rfl (ev_mk rfl) (ev_mk rfl)) trivial ?_;refine rl0 (gn rfl) rfl rfl (step_mv rfl rfl) trivial ?_;refine rlk rfl rfl rfl rfl rfl (ngb rfl rfl) rfl rfl ?_;refine rlk rfl rfl rfl rfl rfl (ngb rfl rfl) rfl rfl ?_;refine rlk rfl rfl rfl rfl rfl (ngb rfl rfl) rfl rfl ?_;refine rlk rfl rfl rfl rfl rfl (ngb rfl rfl) rfl rfl ?_;refine rlk rfl rfl rfl rfl rfl (ngb rfl rfl) rfl rfl ?_;refine rl0 (gn rfl) rfl rfl (step_pick rfl (ev_mk rfl) (ev_mk rfl)) trivial ?_;refine rl0 (gn rfl) rfl rfl (step_mv rfl rfl) trivial ?_;refine rlk rfl rfl rfl rfl rfl (ngb rfl rfl) rfl rfl ?_;refine rlk rfl rfl rfl rfl rfl (ngb rfl rfl) rfl rfl ?_;refine rlk rfl rfl rfl rfl rfl (ngb rfl rfl) rfl rfl ?_;refine rlk rfl rfl rfl rfl rfl (ngb rfl rfl) rfl rfl ?_;refine rlk rfl rfl rfl rfl rfl (ngb rfl rfl) rfl rfl ?_;refine rl0 (gn rfl) rfl rfl (step_pick rfl (ev_mk rfl) (ev_mk rfl)) trivial ?_;refine rl0 (gn rfl) rfl rfl (step_as rfl rfl) trivial ?_;refine runsL_nil ?_;refine runs_ret ?_
      first | (have hem_ : true = tcF b x y := (decide_eq_true (by omega)).symm) | (have hem_ : false = tcF b x y := (decide_eq_false (by omega)).symm)
      refine ⟨t_11, fin_mkg (rest rfl res0) ?_ ?_ ?_ ?_ ?_⟩
      · exact t_1
      · exact t_3
      · exact t_6
      · exact t_17
      · exact t_3
  · skip
    refine rl0 (gn rfl) rfl rfl (step_as rfl rfl) trivial ?_;refine runsL_nil ?_;refine runs_cond false (ev_mk rfl) (fun h_ => nomatch h_) (fun _ => ?_);refine runs_region ?_;refine rl_eql (gn rfl) rfl rfl rfl rfl rfl (fun h5 => ?_) (fun h5 => ?_)
    · skip
      refine rl0 (gn rfl) rfl rfl (step_as rfl rfl) trivial ?_;refine runsL_nil ?_;refine runs_cond true (ev_mk rfl) (fun _ => ?_) (fun h_ => nomatch h_);refine runs_seq ?_;refine runs_region ?_;refine rl0 (gn rfl) rfl rfl (step_mv rfl rfl) trivial ?_;refine rl0 (gn rfl) rfl rfl (step_fieldAddr (off := 5) rfl (ev_mk rfl) Try.underlying27 rfl F.sz25 rfl) trivial ?_;refine rl0 (gn rfl) rfl rfl (step_fieldAddr (off := 0) rfl (ev_mk rfl) Try.underlying25 rfl F.sz23 rfl) trivial ?_;refine' rl0 (gn rfl) rfl rfl (step_load_one rfl (ev_mk rfl) F.one23 ?hv) ⟨?hb, trivial⟩ ?_
      case hb => exact t_0
      case hv => rfl
      refine rl_geq (gn rfl) rfl rfl rfl rfl rfl (fun h6 => ?_) (fun h6 => ?_)
      · skip
        refine rl0 (gn rfl) rfl rfl (step_mv rfl rfl) trivial ?_;refine rl0 (gy rfl rfl rfl rfl rfl rfl) rfl rfl (step_mv rfl rfl) trivial ?_;refine rl0 (gy rfl rfl rfl rfl rfl rfl) rfl rfl (step_fieldAddr (off := 5) rfl (ev_mk rfl) Try.underlying27 rfl F.sz25 rfl) trivial ?_;refine rl0 (gy rfl rfl rfl rfl rfl rfl) rfl rfl (step_fieldAddr (off := 2) rfl (ev_mk rfl) Try.underlying25 rfl F.sz23 rfl) trivial ?_;refine' rl0 (gy rfl rfl rfl rfl rfl rfl) rfl rfl (step_load_one rfl (ev_mk rfl) F.one23 ?hv) ⟨?hb, trivial⟩ ?_
        case hb => exact t_0
        case hv => rfl
        refine rl_leq (gy rfl rfl rfl rfl rfl rfl) rfl rfl rfl rfl rfl (fun h7 => ?_) (fun h7 => ?_)
        · skip
          refine rl0 (gn rfl) rfl rfl (step_pick rfl (ev_mk rfl) (ev_mk rfl)) trivial ?_;refine rl0 (gn rfl) rfl rfl (step_mv rfl rfl) trivial ?_;refine rl0 (gy rfl rfl rfl rfl rfl rfl) rfl rfl (step_mv rfl rfl) trivial ?_;refine rl0 (gy rfl rfl rfl rfl rfl rfl) rfl rfl (step_fieldAddr (off := 5) rfl (ev_mk rfl) Try.underlying27 rfl F.sz25 rfl) trivial ?_;refine rl0 (gy rfl rfl rfl rfl rfl rfl) rfl rfl (step_fieldAddr (off := 1) rfl (ev_mk rfl) Try.underlying25 rfl F.sz23 rfl) trivial ?_;refine' rl0 (gy rfl rfl rfl rfl rfl rfl) rfl rfl (step_load_one rfl (ev_mk rfl) F.one23 ?hv) ⟨?hb, trivial⟩ ?_
          case hb => exact t_0
          case hv => rfl
          refine rl_geq (gy rfl rfl rfl rfl rfl rfl) rfl rfl rfl rfl rfl (fun h8 => ?_) (fun h8 => ?_)
          · skip
            refine rl0 (gn rfl) rfl rfl (step_pick rfl (ev_mk rfl) (ev_mk rfl)) trivial ?_;refine rl0 (gn rfl) rfl rfl (step_mv rfl rfl) trivial ?_;refine rl0 (gy rfl rfl rfl rfl rfl rfl) rfl rfl (step_mv rfl rfl) trivial ?_;refine rl0 (gy rfl rfl rfl rfl rfl rfl) rfl rfl (step_fieldAddr (off := 5) rfl (ev_mk rfl) Try.underlying27 rfl F.sz25 rfl) trivial ?_;refine rl0 (gy rfl rfl rfl rfl rfl rfl) rfl rfl (step_fieldAddr (off := 3) rfl (ev_mk rfl) Try.underlying25 rfl F.sz23 rfl) trivial ?_;refine' rl0 (gy rfl rfl rfl rfl rfl rfl) rfl rfl (step_load_one rfl (ev_mk rfl) F.one23 ?hv) ⟨?hb, trivial⟩ ?_
            case hb => exact t_0
            case hv => rfl
            refine rl_leq (gy rfl rfl rfl rfl rfl rfl) rfl rfl rfl rfl rfl (fun h9 => ?_) (fun h9 => ?_)
            · skip
              refine rl0 (gn rfl) rfl rfl (step_pick rfl (ev_mk rfl) (ev_mk rfl)) trivial ?_;refine rl0 (gn rfl) rfl rfl (step_as rfl rfl) trivial ?_;refine runsL_nil ?_;refine runs_ret ?_
              first | (have hem_ : true = tcF b x y := (decide_eq_true (by omega)).symm) | (have hem_ : false = tcF b x y := (decide_eq_false (by omega)).symm)
              refine ⟨t_11, fin_mkg (rest rfl res0) ?_ ?_ ?_ ?_ ?_⟩
              · exact t_1
              · exact t_3
              · exact t_6
              · exact t_17
              · exact t_3
            · skip
              refine rl0 (gn rfl) rfl rfl (step_pick rfl (ev_mk rfl) (ev_mk rfl)) trivial ?_;refine rl0 (gn rfl) rfl rfl (step_as rfl rfl) trivial ?_;refine runsL_nil ?_;refine runs_ret ?_
              first | (have hem_ : true = tcF b x y := (decide_eq_true (by omega)).symm) | (have hem_ : false = tcF b x y := (decide_eq_false (by omega)).symm)
              refine ⟨t_11, fin_mkg (rest rfl res0) ?_ ?_ ?_ ?_ ?_⟩
              · exact t_1
              · exact t_3
              · exact t_6
              · exact t_17
              · exact t_3
          · skip
            refine rl0 (gn rfl) rfl rfl (step_pick rfl (ev_mk rfl) (ev_mk rfl)) trivial ?_;refine rl0 (gn rfl) rfl rfl (step_mv rfl rfl) trivial ?_;refine rlk rfl rfl rfl rfl rfl (ngb rfl rfl) rfl rfl ?_;refine rlk rfl rfl rfl rfl rfl (ngb rfl rfl) rfl rfl ?_;refine rlk rfl rfl rfl rfl rfl (ngb rfl rfl) rfl rfl ?_;refine rlk rfl rfl rfl rfl rfl (ngb rfl rfl) rfl rfl ?_;refine rlk rfl rfl rfl rfl rfl (ngb rfl rfl) rfl rfl ?_;refine rl0 (gn rfl) rfl rfl (step_pick rfl (ev_mk rfl) (ev_mk rfl)) trivial ?_;refine rl0 (gn rfl) rfl rfl (step_as rfl rfl) trivial ?_;refine runsL_nil ?_;refine runs_ret ?_
            first | (have hem_ : true = tcF b x y := (decide_eq_true (by omega)).symm) | (have hem_ : false = tcF b x y := (decide_eq_false (by omega)).symm)
            refine ⟨t_11, fin_mkg (rest rfl res0) ?_ ?_ ?_ ?_ ?_⟩
            · exact t_1
            · exact t_3
            · exact t_6
            · exact t_17
            · exact t_3
        · skip
          refine rl0 (gn rfl) rfl rfl (step_pick rfl (ev_mk rfl) (ev_mk rfl)) trivial ?_;refine rl0 (gn rfl) rfl rfl (step_mv rfl rfl) trivial ?_;refine rlk rfl rfl rfl rfl rfl (ngb rfl rfl) rfl rfl ?_;refine rlk rfl rfl rfl rfl rfl (ngb rfl rfl) rfl rfl ?_;refine rlk rfl rfl rfl rfl rfl (ngb rfl rfl) rfl rfl ?_;refine rlk rfl rfl rfl rfl rfl (ngb rfl rfl) rfl rfl ?_;refine rlk rfl rfl rfl rfl rfl (ngb rfl rfl) rfl rfl ?_;refine rl0 (gn rfl) rfl rfl (step_pick rfl (ev_mk rfl) (ev_mk rfl)) trivial ?_;refine rl0 (gn rfl) rfl rfl (step_mv rfl rfl) trivial ?_;refine rlk rfl rfl rfl rfl rfl (ngb rfl rfl) rfl rfl ?_;refine rlk rfl rfl rfl rfl rfl (ngb rfl rfl) rfl rfl ?_;refine rlk rfl rfl rfl rfl rfl (ngb rfl rfl) rfl rfl ?_;refine rlk rfl rfl rfl rfl rfl (ngb rfl rfl) rfl rfl ?_;refine rlk rfl rfl rfl rfl rfl (ngb rfl rfl) rfl rfl ?_;refine rl0 (gn rfl) rfl rfl (step_pick rfl (ev_mk rfl) (ev_mk rfl)) trivial ?_;refine rl0 (gn rfl) rfl rfl (step_as rfl rfl) trivial ?_;refine runsL_nil ?_;refine runs_ret ?_
          first | (have hem_ : true = tcF b x y := (decide_eq_true (by omega)).symm) | (have hem_ : false = tcF b x y := (decide_eq_false (by omega)).symm)
          refine ⟨t_11, fin_mkg (rest rfl res0) ?_ ?_ ?_ ?_ ?_⟩
          · exact t_1
          · exact t_3
          · exact t_6
          · exact t_17
          · exact t_3
      · skip
        refine rl0 (gn rfl) rfl rfl (step_mv rfl rfl) trivial ?_;refine rlk rfl rfl rfl rfl rfl (ngb rfl rfl) rfl rfl ?_;refine rlk rfl rfl rfl rfl rfl (ngb rfl rfl) rfl rfl ?_;refine rlk rfl rfl rfl rfl rfl (ngb rfl rfl) rfl rfl ?_;refine rlk rfl rfl rfl rfl rfl (ngb rfl rfl) rfl rfl ?_;refine rlk rfl rfl rfl rfl rfl (ngb rfl rfl) rfl rfl ?_;refine rl0 (gn rfl) rfl rfl (step_pick rfl (ev_mk rfl) (ev_mk rfl)) trivial ?_;refine rl0 (gn rfl) rfl rfl (step_mv rfl rfl) trivial ?_;refine rlk rfl rfl rfl rfl rfl (ngb rfl rfl) rfl rfl ?_;refine rlk rfl rfl rfl rfl rfl (ngb rfl rfl) rfl rfl ?_;refine rlk rfl rfl rfl rfl rfl (ngb rfl rfl) rfl rfl ?_;refine rlk rfl rfl rfl rfl rfl (ngb rfl rfl) rfl rfl ?_;refine rlk rfl rfl rfl rfl rfl (ngb rfl rfl) rfl rfl ?_;refine rl0 (gn rfl) rfl rfl (step_pick rfl (ev_mk rfl) (ev_mk rfl)) trivial ?_;refine rl0 (gn rfl) rfl rfl (step_mv rfl rfl) trivial ?_;refine rlk rfl rfl rfl rfl rfl (ngb rfl rfl) rfl rfl ?_;refine rlk rfl rfl rfl rfl rfl (ngb rfl rfl) rfl rfl ?_;refine rlk rfl rfl rfl rfl rfl (ngb rfl rfl) rfl rfl ?_;refine rlk rfl rfl rfl rfl rfl (ngb rfl rfl) rfl rfl ?_;refine rlk rfl rfl rfl rfl rfl (ngb rfl rfl) rfl rfl ?_;refine rl0 (gn rfl) rfl rfl (step_pick rfl (ev_mk rfl) (ev_mk rfl)) trivial ?_;refine rl0 (gn rfl) rfl rfl (step_as rfl rfl) trivial ?_;refine runsL_nil ?_;refine runs_ret ?_
        first | (have hem_ : true = tcF b x y := (decide_eq_true (by omega)).symm) | (have hem_ : false = tcF b x y := (decide_eq_false (by omega)).symm)
        refine ⟨t_11, fin_mkg (rest rfl res0) ?_ ?_ ?_ ?_ ?_⟩
        · exact t_1
        · exact t_3
        · exact t_6
        · exact t_17
        · exact t_3
    · skip
      exact False.elim (by omega)
end Go.Proofs.Ythpkhecialkmmaa
