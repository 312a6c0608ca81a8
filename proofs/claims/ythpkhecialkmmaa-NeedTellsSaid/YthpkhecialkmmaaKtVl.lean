/- Walks by the logic of values. -/
import Derived.Test.YthpkhecialkmmaaKtVmT
import Derived.Test.YthpkhecialkmmaaKtVmP
import Derived.Test.YthpkhecialkmmaaKtVmV
import Derived.Test.YthpkhecialkmmaaKtVmO
import Derived.Test.YthpkhecialkmmaaKtVa
import Derived.Test.YthpkhecialkmmaaKtVb
import Derived.Test.YthpkhecialkmmaaKtVc
import Derived.Test.YthpkhecialkmmaaKtVd
import Derived.Test.YthpkhecialkmmaaKtVe
import Derived.Test.YthpkhecialkmmaaKtVf
import Derived.Test.YthpkhecialkmmaaKtVg
import Derived.Test.YthpkhecialkmmaaKtVh
import Derived.Test.YthpkhecialkmmaaKtVi
import Derived.Test.YthpkhecialkmmaaKtVj
import Derived.Test.YthpkhecialkmmaaKtVk
namespace Go.Proofs.Ythpkhecialkmmaa
open Go.Vm
set_option linter.unusedVariables false
set_option linter.unusedSimpArgs false
theorem cnt_le {o : Op1} (ho : OkO o) : cntF o ≤ 65 := by
  have := tou_len ho.2.2.1 ho.2.2.2.1 ho.2.2.2.2.1 ho.2.2.2.2.2
  unfold cntF; split <;> (try split) <;> (try split) <;> omega
instance : Inhabited Wt := ⟨⟨0, 0, 0⟩⟩
theorem oatW {l : List Wt} {i : Nat} (h : (i : Int) < l.length) : l[i]? = some (at' l (i : Int)) := by
  unfold at'; rw [Int.toNat_natCast, List.getD_eq_getElem?_getD, List.getElem?_eq_getElem (by omega)]; rfl
theorem at_W {l : List Wt} {i : Nat} {t : Wt} (h : l[i]? = some t) : at' l (i : Int) = t := by
  unfold at'; rw [Int.toNat_natCast, List.getD_eq_getElem?_getD, h]; rfl
theorem rs_self (a b : Int) : (!eqCs (rsV a b) (rsV a b)) = false := by rw [rs_eq.2 ⟨rfl, rfl⟩]; rfl
theorem cov_next {l : List Wt} {p : Wt → Bool} {i : Nat} {t : Wt} (h : ∀ j w', j < i → l[j]? = some w' → p w' = true) (ht : l[i]? = some t) (hp : p t = true) : ∀ j w', j < i + 1 → l[j]? = some w' → p w' = true := by
  intro j w' hj hw
  by_cases e : j = i
  · subst e; rw [ht] at hw; cases hw; exact hp
  · exact h j w' (by omega) hw
theorem cov_all {l : List Wt} {p : Wt → Bool} {i : Nat} (h : ∀ j w', j < i → l[j]? = some w' → p w' = true) (hi : l.length ≤ i) : ∀ w ∈ l, p w = true := by
  intro w hw
  obtain ⟨j, hj⟩ := List.getElem?_of_mem hw
  exact h j w (by have := (List.getElem?_eq_some_iff.1 hj).1; omega) hj
set_option maxRecDepth 100000 in
set_option maxHeartbeats 4000000 in
theorem tells_c (o : Op1) (r : Rc1) (th : Bool) (ms : List Int) (ho : OkO o) (hr : OkR r) (hk : 0 ≤ o.key) (hb : Byts ms) : Does Try.prog 3 [.agg (opC o), .agg (rcdC r), .sc (.bool th), .sl 1 (bytesV ms)] [] [] (.sc (.bool true)) := by
  refine does_mkr 40 Try.func3 rfl rfl rfl (fun n B bx hd hpre hup hvs hbx hgx hO => ?_)
  have hcn_ := al_cnt o r th
  have hcb_ := cnt_le ho
  refine runs_seq ?_
  refine runs_region ?_
  refine rl1 (gn rfl) rfl rfl (step_box_agg (k := n + 0) rfl rfl) ⟨by repeat (first | exact uE | refine uN (by omega) ?_ | assumption | exact hd _ (by omega) | fail), trivial⟩ (by omega) ?_
  refine rl1 (gn rfl) rfl rfl (step_box_agg (k := n + 1) rfl rfl) ⟨by repeat (first | exact uE | refine uN (by omega) ?_ | assumption | exact hd _ (by omega) | fail), trivial⟩ (by omega) ?_
  refine rl1 (gn rfl) rfl rfl (step_box_one (k := n + 2) rfl rfl rfl rfl) ⟨by repeat (first | exact uE | refine uN (by omega) ?_ | assumption | exact hd _ (by omega) | fail), trivial⟩ (by omega) ?_
  refine rl1 (gn rfl) rfl rfl (step_box_one (k := n + 3) rfl rfl rfl rfl) ⟨by repeat (first | exact uE | refine uN (by omega) ?_ | assumption | exact hd _ (by omega) | fail), trivial⟩ (by omega) ?_
  refine rl1 (gn rfl) rfl rfl (step_allocc (k := n + 4) (zs := [.bool false]) (cs := [.sc (.bool false)]) rfl F.zero4 (by first | rfl | simp) (by first | rfl | decide | simp) (by first | rfl | simp)) ⟨by repeat (first | exact uE | refine uN (by omega) ?_ | assumption | exact hd _ (by omega) | fail), trivial⟩ (by omega) ?_
  refine runsL_nil ?_
  refine runs_seq ?_
  refine runs_seq ?_
  refine runs_region ?_
  refine' rl0 (gn rfl) rfl rfl (step_load_one rfl (ev_mk rfl) F.one30 ?hv) ⟨?hb, trivial⟩ ?_
  case hb => repeat (first | exact uE | refine uN (by omega) ?_ | assumption | exact hd _ (by omega) | fail)
  case hv => rfl
  refine rl0 (gn rfl) rfl rfl (step_len (m := ms.length) rfl rfl (ev_mk rfl) (.inl ⟨⟨_, Try.underlying30⟩, .inl ⟨_, _, .inl rfl, List.length_map _⟩⟩)) trivial ?_
  refine rl_gtr (gn rfl) rfl rfl rfl rfl rfl (fun h1 => ?_) (fun h1 => ?_)
  · skip
    refine runsL_nil ?_
    refine runs_cond true (ev_mk rfl) (fun _ => ?_) (fun h_ => nomatch h_)
    refine runs_seq ?_
    refine runs_region ?_
    refine rl0 (gn rfl) rfl rfl (step_callc rfl Try.func6 rfl rfl rfl (works_c) (by repeat (first | exact .nil | refine .cons ?_ ?_ | exact VLe.refl _ | exact VLe.own_sl _ _ _ | exact VLe.fl_sl _ _ | exact VLe.nil_sl _ | exact VLe.nil_fl _ | refine VLe.agg ?_))) trivial ?_
    refine' rls (gn rfl) rfl (step_store1 rfl rfl rfl rfl F.one4 rfl rfl ?hl ?hc) ⟨?hb, trivial⟩ ?hk ?_
    case hb => repeat (first | exact uE | refine uN (by omega) ?_ | assumption | exact hd _ (by omega) | fail)
    case hl => first | exact Nat.le_of_ble_eq_true rfl | decide | (simp; done) | (simp; omega) | (first | (simp; done) | (simp; omega) | omega)
    case hc => first | (simp only [List.set_cons_succ, List.set_cons_zero]; rfl) | rfl
    case hk => omega
    refine runsL_nil ?_
    refine runs_ret ?_
    refine ⟨by first | exact .inr rfl | exact .inl rfl, fin_mkg (resc1 rfl (by repeat (first | exact uE | refine uN (by omega) ?_ | assumption | exact hd _ (by omega) | fail)) F.one4 rfl res0) ?_ ?_ ?_ ?_ ?_⟩
    · (repeat' (first | exact VLe.refl _ | exact VLe.own_sl _ _ _ | exact VLe.fl_sl _ _ | exact VLe.nil_sl _ | exact VLe.nil_fl _ | exact VLes.refl _ | exact .nil | refine VLe.tup ?_ | refine VLe.agg ?_ | refine .cons ?_ ?_ | (rw [Int.natCast_add]; exact VLe.refl _) | exact vle_int (by omega) | exact vle_bool (by first | rfl | assumption | (simp_all; done) | fail) | fail))
    · first | ((repeat (first | exact trivial | assumption | omega | (simp only [V.bd]; omega) | refine ⟨?_, ?_⟩ | fail)); done) | (repeat (first | exact trivial | assumption | omega | (refine bdR_map (fun _ => ?_)) | (refine bdL_map (fun _ => ?_)) | refine ⟨?_, ?_⟩ | fail))
    · intro k_ hk_; exact ble (by repeat (first | exact rfl | refine uN (by omega) ?_ | assumption | fail))
    · intro p hp; cases hp
    · first | ((repeat (first | exact trivial | assumption | omega | (simp only [V.bd]; omega) | refine ⟨?_, ?_⟩ | fail)); done) | (repeat (first | exact trivial | assumption | omega | (refine bdR_map (fun _ => ?_)) | (refine bdL_map (fun _ => ?_)) | refine ⟨?_, ?_⟩ | fail))
  · skip
    refine runsL_nil ?_
    refine runs_cond false (ev_mk rfl) (fun h_ => nomatch h_) (fun _ => ?_)
    refine runs_skip ?_
    refine runs_seq ?_
    refine runs_region ?_
    refine rl0 (gn rfl) rfl rfl (step_makeFunc rfl rfl) trivial ?_
    refine rl0 (gn rfl) rfl rfl (step_as rfl rfl) trivial ?_
    refine runsL_nil ?_
    refine runs_seq ?_
    refine runs_region ?_
    refine' rl0 (gn rfl) rfl rfl (step_load_all rfl rfl F.agg27 ?hl) ⟨?hb, trivial⟩ ?_
    case hb => repeat (first | exact uE | refine uN (by omega) ?_ | assumption | exact hd _ (by omega) | fail)
    case hl => first | rfl | (simp; done) | (first | (simp; done) | (simp; omega) | omega)
    refine' rl0 (gn rfl) rfl rfl (step_load_all rfl rfl F.agg29 ?hl) ⟨?hb, trivial⟩ ?_
    case hb => repeat (first | exact uE | refine uN (by omega) ?_ | assumption | exact hd _ (by omega) | fail)
    case hl => first | rfl | (simp; done) | (first | (simp; done) | (simp; omega) | omega)
    refine' rl0 (gn rfl) rfl rfl (step_load_one rfl (ev_mk rfl) F.one4 ?hv) ⟨?hb, trivial⟩ ?_
    case hb => repeat (first | exact uE | refine uN (by omega) ?_ | assumption | exact hd _ (by omega) | fail)
    case hv => rfl
    refine rl0 (gn rfl) rfl rfl (step_callc rfl Try.func8 rfl rfl rfl (rall_c o r th ho hr) (by repeat (first | exact .nil | refine .cons ?_ ?_ | exact VLe.refl _ | exact VLe.own_sl _ _ _ | exact VLe.fl_sl _ _ | exact VLe.nil_sl _ | exact VLe.nil_fl _ | refine VLe.agg ?_))) trivial ?_
    refine rl1 (gn rfl) rfl rfl (step_allocc (k := n + 5) (zs := [.slice none 0 0]) (cs := [.sc (.slice none 0 0)]) rfl F.zero33 (by first | rfl | simp) (by first | rfl | decide | simp) (by first | rfl | simp)) ⟨by repeat (first | exact uE | refine uN (by omega) ?_ | assumption | exact hd _ (by omega) | fail), trivial⟩ (by omega) ?_
    refine' rls (gn rfl) rfl (step_store1 rfl rfl rfl rfl F.one33 rfl rfl ?hl ?hc) ⟨?hb, trivial⟩ ?hk ?_
    case hb => repeat (first | exact uE | refine uN (by omega) ?_ | assumption | exact hd _ (by omega) | fail)
    case hl => first | exact Nat.le_of_ble_eq_true rfl | decide | (simp; done) | (simp; omega) | (first | (simp; done) | (simp; omega) | omega)
    case hc => first | (simp only [List.set_cons_succ, List.set_cons_zero]; rfl) | rfl
    case hk => omega
    refine runsL_nil ?_
    refine runs_seq ?_
    refine runs_region ?_
    refine' rl0 (gn rfl) rfl rfl (step_load_all rfl rfl F.agg27 ?hl) ⟨?hb, trivial⟩ ?_
    case hb => repeat (first | exact uE | refine uN (by omega) ?_ | assumption | exact hd _ (by omega) | fail)
    case hl => first | rfl | (simp; done) | (first | (simp; done) | (simp; omega) | omega)
    refine rl0 (gn rfl) rfl rfl (step_mv rfl rfl) trivial ?_
    refine rl2 (gn rfl) rfl rfl (step_callc rfl Try.func9 rfl rfl rfl (nall_7 o (k2 := (n + 6)) (kf := (n + 7)) (by omega)) (by repeat (first | exact .nil | refine .cons ?_ ?_ | exact VLe.refl _ | exact VLe.own_sl _ _ _ | exact VLe.fl_sl _ _ | exact VLe.nil_sl _ | exact VLe.nil_fl _ | refine VLe.agg ?_))) ⟨by repeat (first | exact uE | refine uN (by omega) ?_ | assumption | exact hd _ (by omega) | fail), by repeat (first | exact uE | refine uN (by omega) ?_ | assumption | exact hd _ (by omega) | fail), trivial⟩ (by omega) (by omega) ?_
    refine rl0 (gn rfl) rfl rfl (step_as rfl rfl) trivial ?_
    refine runsL_nil ?_
    refine runs_seq ?_
    refine runs_seq ?_
    refine runs_region ?_
    refine rl0 (gn rfl) rfl rfl (step_mv rfl rfl) trivial ?_
    refine rl0 (gn rfl) rfl rfl (step_eq_nilf (b := false) rfl (ev_mk rfl) (ev_mk rfl) Try.underlying36 ⟨_, .inl ⟨.inl ⟨_, _, rfl⟩, rfl⟩, .inl ⟨rfl, rfl⟩⟩) trivial ?_
    refine runsL_nil ?_
    refine runs_cond false (ev_mk rfl) (fun h_ => nomatch h_) (fun _ => ?_)
    refine runs_skip ?_
    refine runs_seq ?_
    refine runs_region ?_
    refine rl1 (gn rfl) rfl rfl (step_allocc (k := n + 8) (zs := [.int .i64 0]) (cs := [.sc (.int .i64 0)]) rfl F.zero3 (by first | rfl | simp) (by first | rfl | decide | simp) (by first | rfl | simp)) ⟨by repeat (first | exact uE | refine uN (by omega) ?_ | assumption | exact hd _ (by omega) | fail), trivial⟩ (by omega) ?_
    refine' rls (gn rfl) rfl (step_store1 rfl rfl rfl rfl F.one3 rfl rfl ?hl ?hc) ⟨?hb, trivial⟩ ?hk ?_
    case hb => repeat (first | exact uE | refine uN (by omega) ?_ | assumption | exact hd _ (by omega) | fail)
    case hl => first | exact Nat.le_of_ble_eq_true rfl | decide | (simp; done) | (simp; omega) | (first | (simp; done) | (simp; omega) | omega)
    case hc => first | (simp only [List.set_cons_succ, List.set_cons_zero]; rfl) | rfl
    case hk => omega
    refine runsL_nil ?_
    refine runs_seq ?_
    refine runs_seq ?_
    refine runs_region ?_
    refine rl0 (gn rfl) rfl rfl (step_mv rfl rfl) trivial ?_
    refine runsL_nil ?_
    refine runs_block ?_
    refine runs_rangeL (f := 24) (caps := [.ref (n + 6) 0, .ref (n + 7) 0]) (xs := (allL o r th).map enW) (Dl := [(n + 8, fun i60 => .cells [.sc (.int .i64 (i60 : Nat))])]) (El := [(n + 6, .cells (opC o), fun m_ b_ => .cells (opC o)), (n + 7, .cells [.fn 7 [.ref (n + 1) 0, .ref (n + 2) 0, .ref (n + 0) 0]], fun m_ b_ => .cells [.fn 7 [.ref (n + 1) 0, .ref (n + 2) 0, .ref (n + 0) 0]])]) (kl := n + 9) (m := (allL o r th).length) (brk := false) (ex := .normal) hO rfl (.inl rfl) Try.func24 rfl rfl (all_7 o r th (by omega) ho hr) ⟨⟨by dsimp only; omega, by dsimp only; omega, ⟨by dsimp only; omega, trivial⟩, ⟨by dsimp only; omega, by dsimp only; omega, trivial⟩, by repeat (first | exact uE | refine uN (by omega) ?_ | assumption | exact hd _ (by omega) | fail)⟩, ⟨by dsimp only; omega, by dsimp only; omega, ⟨by dsimp only; omega, trivial⟩, ⟨by dsimp only; omega, by dsimp only; omega, trivial⟩, by repeat (first | exact uE | refine uN (by omega) ?_ | assumption | exact hd _ (by omega) | fail)⟩, ⟨by dsimp only; omega, by dsimp only; omega, ⟨by dsimp only; omega, trivial⟩, ⟨by dsimp only; omega, by dsimp only; omega, trivial⟩, by repeat (first | exact uE | refine uN (by omega) ?_ | assumption | exact hd _ (by omega) | fail)⟩, trivial⟩ (by repeat (first | exact uE | refine uN (by omega) ?_ | assumption | exact hd _ (by omega) | fail)) (by omega) (by simp) (fun h_ => nomatch h_) (fun _ => ⟨by simp, rfl⟩) (fun v_ hv_ => by obtain ⟨_, _, rfl⟩ := List.mem_map.1 hv_; rfl) rfl ⟨trivial, trivial⟩ ⟨⟨by dsimp only; omega, by dsimp only; omega, ⟨by dsimp only; omega, by dsimp only; omega, trivial⟩, by dsimp only; (first | ((repeat (first | exact uE | assumption | refine uN (by omega) ?_ | fail)); done) | (refine Eq.trans (b := .cells [.sc (.int .i64 0)]) (by repeat (first | exact uE | assumption | refine uN (by omega) ?_ | fail)) ?_; first | rfl | (simp; done)))⟩, trivial⟩ ⟨⟨by dsimp only; omega, by dsimp only; omega, by dsimp only; repeat (first | exact uE | refine uN (by omega) ?_ | assumption | exact hd _ (by omega) | fail)⟩, ⟨by dsimp only; omega, by dsimp only; omega, by dsimp only; repeat (first | exact uE | refine uN (by omega) ?_ | assumption | exact hd _ (by omega) | fail)⟩, trivial⟩ (fun i60 => ⟨bdb_cells (by first | ((repeat (first | exact trivial | assumption | omega | (simp only [V.bd]; omega) | refine ⟨?_, ?_⟩ | fail)); done) | (repeat (first | exact trivial | assumption | omega | (refine bdR_map (fun _ => ?_)) | (refine bdL_map (fun _ => ?_)) | refine ⟨?_, ?_⟩ | fail))), trivial⟩) ⟨bdb_cells (by first | ((repeat (first | exact trivial | assumption | omega | (simp only [V.bd]; omega) | refine ⟨?_, ?_⟩ | fail)); done) | (repeat (first | exact trivial | assumption | omega | (refine bdR_map (fun _ => ?_)) | (refine bdL_map (fun _ => ?_)) | refine ⟨?_, ?_⟩ | fail))), bdb_cells (by first | ((repeat (first | exact trivial | assumption | omega | (simp only [V.bd]; omega) | refine ⟨?_, ?_⟩ | fail)); done) | (repeat (first | exact trivial | assumption | omega | (refine bdR_map (fun _ => ?_)) | (refine bdL_map (fun _ => ?_)) | refine ⟨?_, ?_⟩ | fail))), trivial⟩ ?_ ?_
    · intro i60 v60 hi60 hv60 B60 n60 lr60 bx60 hR60 hl60 hk60 ho60 he60 hn60 hd60 hD60 hfr60
      have hf60 : ∀ k_, k_ < _ → k_ ≠ n + 8 → k_ ≠ n + 6 → k_ ≠ n + 7 → k_ ≠ n + 9 → bx60 k_ = _ := fun k_ a_ e0_ e1_ e2_ e3_ => hfr60 k_ a_ ⟨e0_, e1_, e2_, trivial⟩ e3_
      have hb60_0 : bx60 (n + 8) = .cells [.sc (.int .i64 (i60 : Nat))] := hD60.1
      have hc60_0 : bx60 (n + 0) = .cells [.sc (.int .i64 o.k), .sc (.int .u64 o.key), .sc (.int .u32 o.x), .sc (.int .u32 o.y), .sc (.string o.v), .sc (.int .u32 o.a), .sc (.int .u32 o.b), .sc (.int .u32 o.c), .sc (.int .u32 o.d), .sc (.int .i64 o.n)] := (hf60 _ (by omega) (by omega) (by omega) (by omega) (by omega)).trans (by repeat (first | exact uE | refine uN (by omega) ?_ | assumption | exact hd _ (by omega) | fail))
      have hc60_1 : bx60 (n + 1) = .cells [.sc (.int .u64 r.id), .sc (.int .u64 r.key), .sc (.int .u32 r.x), .sc (.int .u32 r.y), .sc (.string r.v), .sc (.bool r.gh)] := (hf60 _ (by omega) (by omega) (by omega) (by omega) (by omega)).trans (by repeat (first | exact uE | refine uN (by omega) ?_ | assumption | exact hd _ (by omega) | fail))
      have hc60_2 : bx60 (n + 2) = .cells [.sc (.bool th)] := (hf60 _ (by omega) (by omega) (by omega) (by omega) (by omega)).trans (by repeat (first | exact uE | refine uN (by omega) ?_ | assumption | exact hd _ (by omega) | fail))
      have hc60_3 : bx60 (n + 3) = .cells [.sl 1 (bytesV ms)] := (hf60 _ (by omega) (by omega) (by omega) (by omega) (by omega)).trans (by repeat (first | exact uE | refine uN (by omega) ?_ | assumption | exact hd _ (by omega) | fail))
      have hc60_4 : bx60 (n + 4) = .cells [.sc (.bool false)] := (hf60 _ (by omega) (by omega) (by omega) (by omega) (by omega)).trans (by repeat (first | exact uE | refine uN (by omega) ?_ | assumption | exact hd _ (by omega) | fail))
      have hc60_5 : bx60 (n + 5) = .cells [.sl 3 ((allL o r th).map wC)] := (hf60 _ (by omega) (by omega) (by omega) (by omega) (by omega)).trans (by repeat (first | exact uE | refine uN (by omega) ?_ | assumption | exact hd _ (by omega) | fail))
      obtain ⟨t60, ht60, rfl⟩ := map_get hv60
      have hat_ := at_W ht60
      refine runs_keep (l' := [(33, .agg [.sc (.int .i64 t60.k), .sc (.int .u64 t60.n), .sc (.int .i64 t60.m)]), (8, .ref (n + 4) 0), (10, .ref (n + 5) 0), (12, .ref (n + 8) 0)]) ?_ ?_
      · (repeat' (first | exact trivial | refine ⟨⟨_, rfl, ?_⟩, ?_⟩ | fail)); all_goals (repeat' (first | exact VLe.refl _ | exact VLe.own_sl _ _ _ | exact VLe.fl_sl _ _ | exact VLe.nil_sl _ | exact VLe.nil_fl _ | exact VLes.refl _ | exact .nil | refine VLe.tup ?_ | refine VLe.agg ?_ | refine .cons ?_ ?_ | (rw [Int.natCast_add]; exact VLe.refl _) | exact vle_int (by omega) | exact vle_bool (by first | rfl | assumption | (simp_all; done) | fail) | fail))
      refine runs_bump 40 ?_
      refine runs_region ?_
      refine rl1 (gn rfl) rfl rfl (step_allocc (k := n60 + 0) (zs := [.int .i64 0, .int .u64 0, .int .i64 0]) (cs := [.sc (.int .i64 0), .sc (.int .u64 0), .sc (.int .i64 0)]) rfl F.zero41 (by first | rfl | simp) (by first | rfl | decide | simp) (by first | rfl | simp)) ⟨by repeat (first | exact uE | refine uN (by omega) ?_ | assumption | exact hd _ (by omega) | exact hd60 _ (by omega) | fail), trivial⟩ (by omega) ?_
      refine' rls (gn rfl) rfl (step_storeA rfl rfl rfl rfl F.agg41 ?hm ?hl) ⟨?hb, trivial⟩ ?hk ?_
      case hb => repeat (first | exact uE | refine uN (by omega) ?_ | assumption | exact hd _ (by omega) | exact hd60 _ (by omega) | fail)
      case hm => first | rfl | (simp; done) | (first | (simp; done) | (simp; omega) | omega)
      case hl => first | rfl | (simp; done) | (first | (simp; done) | (simp; omega) | omega)
      case hk => omega
      refine runsL_nil ?_
      refine ⟨rfl, by repeat (first | exact rfl | refine uN (by omega) ?_ | fail), fun r60 => ?_⟩
      show Runs _ _ _ _ ⟨mk _, _ + _, upd _ _ _⟩ _
      refine runs_block ?_
      refine runs_seq ?_
      refine runs_seq ?_
      refine runs_draw (by kernel_rfl) (by kernel_rfl) (by kernel_rfl) ?_
      refine' dl0 (gn rfl) rfl rfl (step_load_one rfl (ev_mk rfl) F.one3 ?hv) ⟨?hb, trivial⟩ ?_
      case hb => repeat (first | exact uE | refine uN (by omega) ?_ | assumption | exact hd _ (by omega) | exact hd60 _ (by omega) | fail)
      case hv => rfl
      refine' dl0 (gn rfl) rfl rfl (step_load_one rfl (ev_mk rfl) F.one33 ?hv) ⟨?hb, trivial⟩ ?_
      case hb => repeat (first | exact uE | refine uN (by omega) ?_ | assumption | exact hd _ (by omega) | exact hd60 _ (by omega) | fail)
      case hv => rfl
      refine dl0 (gn rfl) rfl rfl (step_len (m := (allL o r th).length) rfl rfl (ev_mk rfl) (.inl ⟨⟨_, Try.underlying33⟩, .inl ⟨_, _, .inl rfl, List.length_map _⟩⟩)) trivial ?_
      refine dl_geq (gn rfl) rfl rfl rfl rfl rfl (fun h2 => ?_) (fun h2 => ?_)
      · exact False.elim (by omega)
      refine dl0 (gn rfl) rfl rfl (step_mv rfl rfl) trivial ?_
      refine dl0 (gy rfl rfl rfl rfl rfl rfl) rfl rfl (step_fieldAddr (off := 0) rfl (ev_mk rfl) Try.underlying41 rfl F.sz39 rfl) trivial ?_
      refine' dl0 (gy rfl rfl rfl rfl rfl rfl) rfl rfl (step_load_agg rfl (ev_mk rfl) F.agg39 ?hc ?hl) ⟨?hb, trivial⟩ ?_
      case hb => repeat (first | exact uE | refine uN (by omega) ?_ | assumption | exact hd _ (by omega) | exact hd60 _ (by omega) | fail)
      case hc => rfl
      case hl => first | rfl | (simp; done) | (first | (simp; done) | (simp; omega) | omega)
      refine' dl0 (gy rfl rfl rfl rfl rfl rfl) rfl rfl (step_load_one rfl (ev_mk rfl) F.one33 ?hv) ⟨?hb, trivial⟩ ?_
      case hb => repeat (first | exact uE | refine uN (by omega) ?_ | assumption | exact hd _ (by omega) | exact hd60 _ (by omega) | fail)
      case hv => rfl
      refine' dl0 (gy rfl rfl rfl rfl rfl rfl) rfl rfl (step_load_one rfl (ev_mk rfl) F.one3 ?hv) ⟨?hb, trivial⟩ ?_
      case hb => repeat (first | exact uE | refine uN (by omega) ?_ | assumption | exact hd _ (by omega) | exact hd60 _ (by omega) | fail)
      case hv => rfl
      refine' dl0 (gy rfl rfl rfl rfl rfl rfl) rfl rfl (step_index rfl (ev_mk rfl) (.inl rfl) (ev_mk rfl) Try.underlying33 F.sz43 (by omega) ?hr) trivial ?_
      case hr => exact map_at _ _ _ (by omega) (by omega)
      refine dl0 (gy rfl rfl rfl rfl rfl rfl) rfl rfl (step_fieldAddr_ro (off := 0) rfl (ev_mk rfl) Try.underlying43 rfl F.sz39 rfl rfl) trivial ?_
      refine dl0 (gy rfl rfl rfl rfl rfl rfl) rfl rfl (step_load_ro_agg rfl (ev_mk rfl) F.agg39 rfl rfl) trivial ?_
      refine dl0 (gy rfl rfl rfl rfl rfl rfl) rfl rfl (step_neq39 rfl (ev_mk rfl) (ev_mk rfl)) trivial ?_
      refine dl_know (d := 46) (c := false) rfl (by rw [hat_]; exact rs_self _ _) ?_
      refine dl0 (gn rfl) rfl rfl (step_pick rfl (ev_mk rfl) (ev_mk rfl)) trivial ?_
      refine dl0 (gn rfl) rfl rfl (step_mv rfl rfl) trivial ?_
      refine dl0 (gy rfl rfl rfl rfl rfl rfl) rfl rfl (step_fieldAddr (off := 2) rfl (ev_mk rfl) Try.underlying41 rfl F.sz3 rfl) trivial ?_
      refine' dl0 (gy rfl rfl rfl rfl rfl rfl) rfl rfl (step_load_one rfl (ev_mk rfl) F.one3 ?hv) ⟨?hb, trivial⟩ ?_
      case hb => repeat (first | exact uE | refine uN (by omega) ?_ | assumption | exact hd _ (by omega) | exact hd60 _ (by omega) | fail)
      case hv => rfl
      refine' dl0 (gy rfl rfl rfl rfl rfl rfl) rfl rfl (step_load_one rfl (ev_mk rfl) F.one33 ?hv) ⟨?hb, trivial⟩ ?_
      case hb => repeat (first | exact uE | refine uN (by omega) ?_ | assumption | exact hd _ (by omega) | exact hd60 _ (by omega) | fail)
      case hv => rfl
      refine' dl0 (gy rfl rfl rfl rfl rfl rfl) rfl rfl (step_load_one rfl (ev_mk rfl) F.one3 ?hv) ⟨?hb, trivial⟩ ?_
      case hb => repeat (first | exact uE | refine uN (by omega) ?_ | assumption | exact hd _ (by omega) | exact hd60 _ (by omega) | fail)
      case hv => rfl
      refine' dl0 (gy rfl rfl rfl rfl rfl rfl) rfl rfl (step_index rfl (ev_mk rfl) (.inl rfl) (ev_mk rfl) Try.underlying33 F.sz43 (by omega) ?hr) trivial ?_
      case hr => exact map_at _ _ _ (by omega) (by omega)
      refine dl0 (gy rfl rfl rfl rfl rfl rfl) rfl rfl (step_fieldAddr_ro (off := 2) rfl (ev_mk rfl) Try.underlying43 rfl F.sz3 rfl rfl) trivial ?_
      refine dl0 (gy rfl rfl rfl rfl rfl rfl) rfl rfl (step_load_ro rfl (ev_mk rfl) F.one3 rfl) trivial ?_
      refine dl_neq (gy rfl rfl rfl rfl rfl rfl) rfl rfl rfl rfl rfl (fun h3 => ?_) (fun h3 => ?_)
      · exact False.elim (by exact h3 (by rw [hat_]))
      refine dl0 (gn rfl) rfl rfl (step_pick rfl (ev_mk rfl) (ev_mk rfl)) trivial ?_
      refine dlnil ?_ ?_
      · repeat' (first | exact trivial | exact .inr (ap0 _ _ _ _) | exact .inr (ap2 _ _ _ _) | exact .inr (ap3 _ _ _ _) | exact .inr ⟨by first | (simp; done) | (simp; omega), by first | (simp; done) | (simp; omega)⟩ | exact .inl (by kernel_rfl) | refine ⟨?_, ?_⟩ | fail)
      refine runs_cond false (ev_mk rfl) (fun h_ => nomatch h_) (fun _ => ?_)
      refine runs_skip ?_
      refine runs_region ?_
      refine' rl0 (gn rfl) rfl rfl (step_load_one rfl (ev_mk rfl) F.one3 ?hv) ⟨?hb, trivial⟩ ?_
      case hb => repeat (first | exact uE | refine uN (by omega) ?_ | assumption | exact hd _ (by omega) | exact hd60 _ (by omega) | fail)
      case hv => rfl
      refine rl0 (gn rfl) rfl rfl (step_add rfl (ev_mk rfl) (ev_mk rfl) (w64 (by omega))) trivial ?_
      refine' rls (gn rfl) rfl (step_store1 rfl rfl rfl rfl F.one3 rfl rfl ?hl ?hc) ⟨?hb, trivial⟩ ?hk ?_
      case hb => repeat (first | exact uE | refine uN (by omega) ?_ | assumption | exact hd _ (by omega) | exact hd60 _ (by omega) | fail)
      case hl => first | exact Nat.le_of_ble_eq_true rfl | decide | (simp; done) | (simp; omega) | (first | (simp; done) | (simp; omega) | omega)
      case hc => first | (simp only [List.set_cons_succ, List.set_cons_zero]; rfl) | rfl
      case hk => omega
      refine runsL_nil ?_
      refine ⟨by exact (if_neg (fun h_ => nomatch h_.1)).symm, by repeat (first | exact uE | refine uN (by omega) ?_ | assumption | exact hd _ (by omega) | exact hd60 _ (by omega) | fail), fun k_ hk_ hl_ => ?_⟩
      simp only [dL, updL, List.map_cons, List.map_nil]; by_cases e0_ : k_ = (n + 8); (focus subst e0_; refine bl_eq ?_; first | (refine' blec ?hb ?hl; (case hb => repeat (first | exact uE | assumption | refine uN (by omega) ?_ | fail)); (case hl => first | exact VLes.refl _ | ((repeat' (first | exact VLe.refl _ | exact VLe.own_sl _ _ _ | exact VLe.fl_sl _ _ | exact VLe.nil_sl _ | exact VLe.nil_fl _ | exact VLes.refl _ | exact .nil | refine VLe.tup ?_ | refine VLe.agg ?_ | refine .cons ?_ ?_ | (rw [Int.natCast_add]; exact VLe.refl _) | exact vle_int (by omega) | exact vle_bool (by first | rfl | assumption | (simp_all; done) | fail) | fail)); done))) | (refine ble ?_; (repeat (first | exact uE | assumption | refine uN (by omega) ?_ | fail)); done)); refine bl_ne e0_ ?_; exact ble (by repeat (first | exact rfl | refine uN (by first | assumption | omega) ?_ | assumption | exact hf60 _ (by omega) (by first | assumption | omega) (by first | assumption | omega) (by first | assumption | omega) (by first | assumption | omega) | fail))
    · intro bb60 b60 hb60
      simp only [dL, eM, updL, List.map_cons, List.map_nil] at hb60
      subst hb60
      refine runs_seq ?_
      refine runs_region ?_
      refine rl0 (gn rfl) rfl rfl (step_makeFunc rfl rfl) trivial ?_
      refine rl0 (gn rfl) rfl rfl (step_as rfl rfl) trivial ?_
      refine runsL_nil ?_
      refine runs_seq ?_
      refine runs_region ?_
      refine rl0 (gn rfl) rfl rfl (step_as rfl rfl) trivial ?_
      refine runsL_nil ?_
      refine runs_seq ?_
      refine runs_block ?_
      refine runs_loop (fun (ri_ : Nat) (st_ : Go.Vm.S) => ∃ (i : Nat) (m0 : Nat) (b0 : Nat → Box), (st_ = ⟨mk [(4, .ref (n + 0) 0), (8, .ref (n + 4) 0), (9, .fn 7 [.ref (n + 1) 0, .ref (n + 2) 0, .ref (n + 0) 0]), (10, .ref (n + 5) 0), (12, .ref (n + 8) 0), (14, .fn 10 [.ref (n + 3) 0]), (15, .sc (.int .i64 (i : Int)))], m0, b0⟩) ∧ (ri_ = 1 + ((allL o r th).length - i)) ∧ (n + 10 ≤ m0) ∧ (∀ k_, k_ < n → k_ ≠ n + 8 → b0 k_ = bx k_) ∧ (b0 (n + 0) = .cells [.sc (.int .i64 o.k), .sc (.int .u64 o.key), .sc (.int .u32 o.x), .sc (.int .u32 o.y), .sc (.string o.v), .sc (.int .u32 o.a), .sc (.int .u32 o.b), .sc (.int .u32 o.c), .sc (.int .u32 o.d), .sc (.int .i64 o.n)]) ∧ (b0 (n + 1) = .cells [.sc (.int .u64 r.id), .sc (.int .u64 r.key), .sc (.int .u32 r.x), .sc (.int .u32 r.y), .sc (.string r.v), .sc (.bool r.gh)]) ∧ (b0 (n + 2) = .cells [.sc (.bool th)]) ∧ (b0 (n + 3) = .cells [.sl 1 (bytesV ms)]) ∧ (b0 (n + 4) = .cells [.sc (.bool false)]) ∧ (b0 (n + 5) = .cells [.sl 3 ((allL o r th).map wC)]) ∧ (b0 (n + 6) = .cells [.sc (.int .i64 o.k), .sc (.int .u64 o.key), .sc (.int .u32 o.x), .sc (.int .u32 o.y), .sc (.string o.v), .sc (.int .u32 o.a), .sc (.int .u32 o.b), .sc (.int .u32 o.c), .sc (.int .u32 o.d), .sc (.int .i64 o.n)]) ∧ (b0 (n + 7) = .cells [.fn 7 [.ref (n + 1) 0, .ref (n + 2) 0, .ref (n + 0) 0]]) ∧ (b0 (n + 8) = .cells [.sc (.int .i64 ((allL o r th).length : Nat))]) ∧ (i ≤ (allL o r th).length) ∧ (∀ j w', j < i → (allL o r th)[j]? = some w' → cvF (hdF ms w'.k w'.n) w'.m = true)) (1 + ((allL o r th).length - 0)) ⟨_, sle ?_ (Nat.le_refl _), 0, _, _, rfl, rfl, ?_⟩ ?_
      · (repeat' (first | exact trivial | refine ⟨⟨_, rfl, ?_⟩, ?_⟩ | fail)); all_goals (repeat' (first | exact VLe.refl _ | exact VLe.own_sl _ _ _ | exact VLe.fl_sl _ _ | exact VLe.nil_sl _ | exact VLe.nil_fl _ | exact VLes.refl _ | exact .nil | refine VLe.tup ?_ | refine VLe.agg ?_ | refine .cons ?_ ?_ | (rw [Int.natCast_add]; exact VLe.refl _) | exact vle_int (by omega) | exact vle_bool (by first | rfl | assumption | (simp_all; done) | fail) | fail))
      · exact ⟨by omega, (fun k_ hk_ e0_ => by repeat (first | exact rfl | refine uN (by omega) ?_ | assumption | fail)), by first | ((repeat (first | exact uE | assumption | refine uN (by omega) ?_ | fail)); done) | exact tl_eq (by repeat (first | exact uE | assumption | refine uN (by omega) ?_ | fail)) (by first | rfl | (simp [bytesV, beB_len]; done) | (simp [bytesV, beB_len]; omega) | omega), by first | ((repeat (first | exact uE | assumption | refine uN (by omega) ?_ | fail)); done) | exact tl_eq (by repeat (first | exact uE | assumption | refine uN (by omega) ?_ | fail)) (by first | rfl | (simp [bytesV, beB_len]; done) | (simp [bytesV, beB_len]; omega) | omega), by first | ((repeat (first | exact uE | assumption | refine uN (by omega) ?_ | fail)); done) | exact tl_eq (by repeat (first | exact uE | assumption | refine uN (by omega) ?_ | fail)) (by first | rfl | (simp [bytesV, beB_len]; done) | (simp [bytesV, beB_len]; omega) | omega), by first | ((repeat (first | exact uE | assumption | refine uN (by omega) ?_ | fail)); done) | exact tl_eq (by repeat (first | exact uE | assumption | refine uN (by omega) ?_ | fail)) (by first | rfl | (simp [bytesV, beB_len]; done) | (simp [bytesV, beB_len]; omega) | omega), by first | ((repeat (first | exact uE | assumption | refine uN (by omega) ?_ | fail)); done) | exact tl_eq (by repeat (first | exact uE | assumption | refine uN (by omega) ?_ | fail)) (by first | rfl | (simp [bytesV, beB_len]; done) | (simp [bytesV, beB_len]; omega) | omega), by first | ((repeat (first | exact uE | assumption | refine uN (by omega) ?_ | fail)); done) | exact tl_eq (by repeat (first | exact uE | assumption | refine uN (by omega) ?_ | fail)) (by first | rfl | (simp [bytesV, beB_len]; done) | (simp [bytesV, beB_len]; omega) | omega), by first | ((repeat (first | exact uE | assumption | refine uN (by omega) ?_ | fail)); done) | exact tl_eq (by repeat (first | exact uE | assumption | refine uN (by omega) ?_ | fail)) (by first | rfl | (simp [bytesV, beB_len]; done) | (simp [bytesV, beB_len]; omega) | omega), by first | ((repeat (first | exact uE | assumption | refine uN (by omega) ?_ | fail)); done) | exact tl_eq (by repeat (first | exact uE | assumption | refine uN (by omega) ?_ | fail)) (by first | rfl | (simp [bytesV, beB_len]; done) | (simp [bytesV, beB_len]; omega) | omega), by first | ((repeat (first | exact uE | assumption | refine uN (by omega) ?_ | fail)); done) | exact tl_eq (by repeat (first | exact uE | assumption | refine uN (by omega) ?_ | fail)) (by first | rfl | (simp [bytesV, beB_len]; done) | (simp [bytesV, beB_len]; omega) | omega), by omega, fun j w' hj => absurd hj (Nat.not_lt_zero j)⟩
      · rintro _ _ ⟨i, m0, b0, rfl, rfl, hm0, hf0, hB0_0, hB0_1, hB0_2, hB0_3, hB0_4, hB0_5, hB0_6, hB0_7, hB0_8, hF0_0, hF0_1⟩
        refine runs_know (fun hd0 => ?_)
        refine runs_bump 20 ?_
        simp only at hd0
        refine runs_seq ?_
        refine runs_seq ?_
        refine runs_draw (by kernel_rfl) (by kernel_rfl) (by kernel_rfl) ?_
        refine dl0 (gn rfl) rfl rfl (step_mv rfl rfl) trivial ?_
        refine' dl0 (gn rfl) rfl rfl (step_load_one rfl (ev_mk rfl) F.one33 ?hv) ⟨?hb, trivial⟩ ?_
        case hb => repeat (first | exact uE | refine uN (by omega) ?_ | assumption | exact hd _ (by omega) | exact hd0 _ (by omega) | fail)
        case hv => rfl
        refine dl0 (gn rfl) rfl rfl (step_len (m := (allL o r th).length) rfl rfl (ev_mk rfl) (.inl ⟨⟨_, Try.underlying33⟩, .inl ⟨_, _, .inl rfl, List.length_map _⟩⟩)) trivial ?_
        refine dl_lss (gn rfl) rfl rfl rfl rfl rfl (fun h2 => ?_) (fun h2 => ?_)
        · skip
          have hok_ := al_ok ho hr hk (List.mem_of_getElem? (oatW (l := (allL o r th)) (i := i) (by omega)))
          refine dl0 (gn rfl) rfl rfl (step_mv rfl rfl) trivial ?_
          refine dl0 (gy rfl rfl rfl rfl rfl rfl) rfl rfl (step_mv rfl rfl) trivial ?_
          refine' dl0 (gy rfl rfl rfl rfl rfl rfl) rfl rfl (step_load_one rfl (ev_mk rfl) F.one33 ?hv) ⟨?hb, trivial⟩ ?_
          case hb => repeat (first | exact uE | refine uN (by omega) ?_ | assumption | exact hd _ (by omega) | exact hd0 _ (by omega) | fail)
          case hv => rfl
          refine dl0 (gy rfl rfl rfl rfl rfl rfl) rfl rfl (step_mv rfl rfl) trivial ?_
          refine' dl0 (gy rfl rfl rfl rfl rfl rfl) rfl rfl (step_index rfl (ev_mk rfl) (.inl rfl) (ev_mk rfl) Try.underlying33 F.sz43 (by omega) ?hr) trivial ?_
          case hr => exact map_at _ _ _ (by omega) (by omega)
          refine dl0 (gy rfl rfl rfl rfl rfl rfl) rfl rfl (step_fieldAddr_ro (off := 0) rfl (ev_mk rfl) Try.underlying43 rfl F.sz39 rfl rfl) trivial ?_
          refine dl0 (gy rfl rfl rfl rfl rfl rfl) rfl rfl (step_load_ro_agg rfl (ev_mk rfl) F.agg39 rfl rfl) trivial ?_
          refine dl0 (gy rfl rfl rfl rfl rfl rfl) rfl rfl (step_callfn rfl (ev_mk rfl) (.inl rfl) Try.func10 rfl rfl rfl (held_10 ms (at' (allL o r th) (i : Int)).k (at' (allL o r th) (i : Int)).n hb (by omega) hok_.1 hok_.2.1) (by repeat (first | exact .nil | refine .cons ?_ ?_ | exact VLe.refl _ | exact VLe.own_sl _ _ _ | exact VLe.fl_sl _ _ | exact VLe.nil_sl _ | exact VLe.nil_fl _ | refine VLe.agg ?_))) ⟨by repeat (first | exact uE | refine uN (by omega) ?_ | assumption | exact hd _ (by omega) | exact hd0 _ (by omega) | fail), trivial⟩ ?_
          refine' dl0 (gy rfl rfl rfl rfl rfl rfl) rfl rfl (step_load_one rfl (ev_mk rfl) F.one33 ?hv) ⟨?hb, trivial⟩ ?_
          case hb => repeat (first | exact uE | refine uN (by omega) ?_ | assumption | exact hd _ (by omega) | exact hd0 _ (by omega) | fail)
          case hv => rfl
          refine dl0 (gy rfl rfl rfl rfl rfl rfl) rfl rfl (step_mv rfl rfl) trivial ?_
          refine' dl0 (gy rfl rfl rfl rfl rfl rfl) rfl rfl (step_index rfl (ev_mk rfl) (.inl rfl) (ev_mk rfl) Try.underlying33 F.sz43 (by omega) ?hr) trivial ?_
          case hr => exact map_at _ _ _ (by omega) (by omega)
          refine dl0 (gy rfl rfl rfl rfl rfl rfl) rfl rfl (step_fieldAddr_ro (off := 2) rfl (ev_mk rfl) Try.underlying43 rfl F.sz3 rfl rfl) trivial ?_
          refine dl0 (gy rfl rfl rfl rfl rfl rfl) rfl rfl (step_load_ro rfl (ev_mk rfl) F.one3 rfl) trivial ?_
          refine dl0 (gy rfl rfl rfl rfl rfl rfl) rfl rfl (step_callc rfl Try.func11 rfl rfl rfl (rcov_c (hd_m6 ms (at' (allL o r th) (i : Int)).k (at' (allL o r th) (i : Int)).n) hok_.2.2) (by repeat (first | exact .nil | refine .cons ?_ ?_ | exact VLe.refl _ | exact VLe.own_sl _ _ _ | exact VLe.fl_sl _ _ | exact VLe.nil_sl _ | exact VLe.nil_fl _ | refine VLe.agg ?_))) trivial ?_
          refine dl0 (gn rfl) rfl rfl (step_pick rfl (ev_mk rfl) (ev_mk rfl)) trivial ?_
          refine dlnil ?_ ?_
          · repeat' (first | exact trivial | exact .inr (ap0 _ _ _ _) | exact .inr (ap2 _ _ _ _) | exact .inr (ap3 _ _ _ _) | exact .inr ⟨by first | (simp; done) | (simp; omega), by first | (simp; done) | (simp; omega)⟩ | exact .inl (by kernel_rfl) | refine ⟨?_, ?_⟩ | fail)
          refine runs_cond _ (ev_mk rfl) (fun h3 => ?_) (fun h3 => ?_)
          · skip
            refine runs_skip ?_
            refine runs_block ?_
            refine runs_region ?_
            refine rl0 (gn rfl) rfl rfl (step_mv rfl rfl) trivial ?_
            refine rl0 (gn rfl) rfl rfl (step_add rfl (ev_mk rfl) (ev_mk rfl) (w64 (by omega))) trivial ?_
            refine rl0 (gn rfl) rfl rfl (step_as rfl rfl) trivial ?_
            refine runsL_nil ?_
            refine ⟨_, _, ?_, sle ?_ (Nat.le_refl _), (i + 1), _, _, rfl, rfl, by omega, (fun k_ hk_ e0_ => by repeat (first | exact hf0 k_ hk_ e0_ | refine uN (by first | assumption | omega) ?_ | fail)), by first | ((repeat (first | exact uE | assumption | refine uN (by omega) ?_ | fail)); done) | exact tl_eq (by repeat (first | exact uE | assumption | refine uN (by omega) ?_ | fail)) (by first | rfl | (simp [bytesV, beB_len]; done) | (simp [bytesV, beB_len]; omega) | omega), by first | ((repeat (first | exact uE | assumption | refine uN (by omega) ?_ | fail)); done) | exact tl_eq (by repeat (first | exact uE | assumption | refine uN (by omega) ?_ | fail)) (by first | rfl | (simp [bytesV, beB_len]; done) | (simp [bytesV, beB_len]; omega) | omega), by first | ((repeat (first | exact uE | assumption | refine uN (by omega) ?_ | fail)); done) | exact tl_eq (by repeat (first | exact uE | assumption | refine uN (by omega) ?_ | fail)) (by first | rfl | (simp [bytesV, beB_len]; done) | (simp [bytesV, beB_len]; omega) | omega), by first | ((repeat (first | exact uE | assumption | refine uN (by omega) ?_ | fail)); done) | exact tl_eq (by repeat (first | exact uE | assumption | refine uN (by omega) ?_ | fail)) (by first | rfl | (simp [bytesV, beB_len]; done) | (simp [bytesV, beB_len]; omega) | omega), by first | ((repeat (first | exact uE | assumption | refine uN (by omega) ?_ | fail)); done) | exact tl_eq (by repeat (first | exact uE | assumption | refine uN (by omega) ?_ | fail)) (by first | rfl | (simp [bytesV, beB_len]; done) | (simp [bytesV, beB_len]; omega) | omega), by first | ((repeat (first | exact uE | assumption | refine uN (by omega) ?_ | fail)); done) | exact tl_eq (by repeat (first | exact uE | assumption | refine uN (by omega) ?_ | fail)) (by first | rfl | (simp [bytesV, beB_len]; done) | (simp [bytesV, beB_len]; omega) | omega), by first | ((repeat (first | exact uE | assumption | refine uN (by omega) ?_ | fail)); done) | exact tl_eq (by repeat (first | exact uE | assumption | refine uN (by omega) ?_ | fail)) (by first | rfl | (simp [bytesV, beB_len]; done) | (simp [bytesV, beB_len]; omega) | omega), by first | ((repeat (first | exact uE | assumption | refine uN (by omega) ?_ | fail)); done) | exact tl_eq (by repeat (first | exact uE | assumption | refine uN (by omega) ?_ | fail)) (by first | rfl | (simp [bytesV, beB_len]; done) | (simp [bytesV, beB_len]; omega) | omega), by first | ((repeat (first | exact uE | assumption | refine uN (by omega) ?_ | fail)); done) | exact tl_eq (by repeat (first | exact uE | assumption | refine uN (by omega) ?_ | fail)) (by first | rfl | (simp [bytesV, beB_len]; done) | (simp [bytesV, beB_len]; omega) | omega), by omega, cov_next hF0_1 (oatW (by omega)) (by assumption)⟩
            · omega
            · (repeat' (first | exact trivial | refine ⟨⟨_, rfl, ?_⟩, ?_⟩ | fail)); all_goals (repeat' (first | exact VLe.refl _ | exact VLe.own_sl _ _ _ | exact VLe.fl_sl _ _ | exact VLe.nil_sl _ | exact VLe.nil_fl _ | exact VLes.refl _ | exact .nil | refine VLe.tup ?_ | refine VLe.agg ?_ | refine .cons ?_ ?_ | (rw [Int.natCast_add]; exact VLe.refl _) | exact vle_int (by omega) | exact vle_bool (by first | rfl | assumption | (simp_all; done) | fail) | fail))
          · skip
            refine runs_exit ?_
            refine runs_seq ?_
            refine runs_region ?_
            refine' rl0 (gn rfl) rfl rfl (step_load_all rfl rfl F.agg27 ?hl) ⟨?hb, trivial⟩ ?_
            case hb => repeat (first | exact uE | refine uN (by omega) ?_ | assumption | exact hd _ (by omega) | exact hd0 _ (by omega) | fail)
            case hl => first | rfl | (simp; done) | (first | (simp; done) | (simp; omega) | omega)
            refine rl0 (gn rfl) rfl rfl (step_mv rfl rfl) trivial ?_
            refine rl0 (gn rfl) rfl rfl (step_mv rfl rfl) trivial ?_
            refine rl0 (gn rfl) rfl rfl (step_callc rfl Try.func12 rfl rfl rfl (next_yes_7 o r th (kr := n + 1) (kt := n + 2) (ko := n + 0) (km := n + 3) ms hb (by omega) ho hr hk (i := i) (w := (at' (allL o r th) (i : Int))) (oatW (by omega)) hF0_1 (by assumption)) (by repeat (first | exact .nil | refine .cons ?_ ?_ | exact VLe.refl _ | exact VLe.own_sl _ _ _ | exact VLe.fl_sl _ _ | exact VLe.nil_sl _ | exact VLe.nil_fl _ | refine VLe.agg ?_))) ⟨by repeat (first | exact uE | refine uN (by omega) ?_ | assumption | exact hd _ (by omega) | exact hd0 _ (by omega) | fail), by repeat (first | exact uE | refine uN (by omega) ?_ | assumption | exact hd _ (by omega) | exact hd0 _ (by omega) | fail), by repeat (first | exact uE | refine uN (by omega) ?_ | assumption | exact hd _ (by omega) | exact hd0 _ (by omega) | fail), by repeat (first | exact uE | refine uN (by omega) ?_ | assumption | exact hd _ (by omega) | exact hd0 _ (by omega) | fail), trivial⟩ ?_
            refine rl0 (gn rfl) rfl rfl (step_mv rfl rfl) trivial ?_
            refine rl0 (gn rfl) rfl rfl (step_extract rfl (ev_mk rfl) rfl) trivial ?_
            refine rl0 (gn rfl) rfl rfl (step_extract rfl (ev_mk rfl) rfl) trivial ?_
            refine rl1 (gn rfl) rfl rfl (step_allocc (k := m0 + 0) (zs := [.int .i64 0, .int .u64 0, .int .i64 0]) (cs := [.sc (.int .i64 0), .sc (.int .u64 0), .sc (.int .i64 0)]) rfl F.zero41 (by first | rfl | simp) (by first | rfl | decide | simp) (by first | rfl | simp)) ⟨by repeat (first | exact uE | refine uN (by omega) ?_ | assumption | exact hd _ (by omega) | exact hd0 _ (by omega) | fail), trivial⟩ (by omega) ?_
            refine' rls (gn rfl) rfl (step_storeA rfl rfl rfl rfl F.agg41 ?hm ?hl) ⟨?hb, trivial⟩ ?hk ?_
            case hb => repeat (first | exact uE | refine uN (by omega) ?_ | assumption | exact hd _ (by omega) | exact hd0 _ (by omega) | fail)
            case hm => first | rfl | (simp; done) | (first | (simp; done) | (simp; omega) | omega)
            case hl => first | rfl | (simp; done) | (first | (simp; done) | (simp; omega) | omega)
            case hk => omega
            refine rl0 (gn rfl) rfl rfl (step_as rfl rfl) trivial ?_
            refine runsL_nil ?_
            refine runs_seq ?_
            refine runs_seq ?_
            refine runs_draw (by kernel_rfl) (by kernel_rfl) (by kernel_rfl) ?_
            refine dl0 (gn rfl) rfl rfl (step_mv rfl rfl) trivial ?_
            refine dl0 (gn rfl) rfl rfl (step_mv rfl rfl) trivial ?_
            refine' dl0 (gn rfl) rfl rfl (step_load_one rfl (ev_mk rfl) F.one33 ?hv) ⟨?hb, trivial⟩ ?_
            case hb => repeat (first | exact uE | refine uN (by omega) ?_ | assumption | exact hd _ (by omega) | exact hd0 _ (by omega) | fail)
            case hv => rfl
            refine dl0 (gn rfl) rfl rfl (step_len (m := (allL o r th).length) rfl rfl (ev_mk rfl) (.inl ⟨⟨_, Try.underlying33⟩, .inl ⟨_, _, .inl rfl, List.length_map _⟩⟩)) trivial ?_
            refine dl_lss (gn rfl) rfl rfl rfl rfl rfl (fun h4 => ?_) (fun h4 => ?_)
            rotate_left
            · exact False.elim (by omega)
            refine dl0 (gn rfl) rfl rfl (step_binOp (c := .bool false) rfl (ev_mk rfl) (ev_mk rfl) (fun _ => rfl)) trivial ?_
            refine dl0 (gn rfl) rfl rfl (step_mv rfl rfl) trivial ?_
            refine dl0 (gy rfl rfl rfl rfl rfl rfl) rfl rfl (step_mv rfl rfl) trivial ?_
            refine dl0 (gy rfl rfl rfl rfl rfl rfl) rfl rfl (step_mv rfl rfl) trivial ?_
            refine dl0 (gy rfl rfl rfl rfl rfl rfl) rfl rfl (step_fieldAddr (off := 0) rfl (ev_mk rfl) Try.underlying41 rfl F.sz39 rfl) trivial ?_
            refine' dl0 (gy rfl rfl rfl rfl rfl rfl) rfl rfl (step_load_agg rfl (ev_mk rfl) F.agg39 ?hc ?hl) ⟨?hb, trivial⟩ ?_
            case hb => repeat (first | exact uE | refine uN (by omega) ?_ | assumption | exact hd _ (by omega) | exact hd0 _ (by omega) | fail)
            case hc => rfl
            case hl => first | rfl | (simp; done) | (first | (simp; done) | (simp; omega) | omega)
            refine' dl0 (gy rfl rfl rfl rfl rfl rfl) rfl rfl (step_load_one rfl (ev_mk rfl) F.one33 ?hv) ⟨?hb, trivial⟩ ?_
            case hb => repeat (first | exact uE | refine uN (by omega) ?_ | assumption | exact hd _ (by omega) | exact hd0 _ (by omega) | fail)
            case hv => rfl
            refine dl0 (gy rfl rfl rfl rfl rfl rfl) rfl rfl (step_mv rfl rfl) trivial ?_
            refine' dl0 (gy rfl rfl rfl rfl rfl rfl) rfl rfl (step_index rfl (ev_mk rfl) (.inl rfl) (ev_mk rfl) Try.underlying33 F.sz43 (by omega) ?hr) trivial ?_
            case hr => exact map_at _ _ _ (by omega) (by omega)
            refine dl0 (gy rfl rfl rfl rfl rfl rfl) rfl rfl (step_fieldAddr_ro (off := 0) rfl (ev_mk rfl) Try.underlying43 rfl F.sz39 rfl rfl) trivial ?_
            refine dl0 (gy rfl rfl rfl rfl rfl rfl) rfl rfl (step_load_ro_agg rfl (ev_mk rfl) F.agg39 rfl rfl) trivial ?_
            refine dl0 (gy rfl rfl rfl rfl rfl rfl) rfl rfl (step_neq39 rfl (ev_mk rfl) (ev_mk rfl)) trivial ?_
            refine dl_know (d := 105) (c := false) rfl (rs_self _ _) ?_
            refine dl0 (gy rfl rfl rfl rfl rfl rfl) rfl rfl (step_mv rfl rfl) trivial ?_
            refine dl0 (gy rfl rfl rfl rfl rfl rfl) rfl rfl (step_fieldAddr (off := 2) rfl (ev_mk rfl) Try.underlying41 rfl F.sz3 rfl) trivial ?_
            refine' dl0 (gy rfl rfl rfl rfl rfl rfl) rfl rfl (step_load_one rfl (ev_mk rfl) F.one3 ?hv) ⟨?hb, trivial⟩ ?_
            case hb => repeat (first | exact uE | refine uN (by omega) ?_ | assumption | exact hd _ (by omega) | exact hd0 _ (by omega) | fail)
            case hv => rfl
            refine' dl0 (gy rfl rfl rfl rfl rfl rfl) rfl rfl (step_load_one rfl (ev_mk rfl) F.one33 ?hv) ⟨?hb, trivial⟩ ?_
            case hb => repeat (first | exact uE | refine uN (by omega) ?_ | assumption | exact hd _ (by omega) | exact hd0 _ (by omega) | fail)
            case hv => rfl
            refine dl0 (gy rfl rfl rfl rfl rfl rfl) rfl rfl (step_mv rfl rfl) trivial ?_
            refine' dl0 (gy rfl rfl rfl rfl rfl rfl) rfl rfl (step_index rfl (ev_mk rfl) (.inl rfl) (ev_mk rfl) Try.underlying33 F.sz43 (by omega) ?hr) trivial ?_
            case hr => exact map_at _ _ _ (by omega) (by omega)
            refine dl0 (gy rfl rfl rfl rfl rfl rfl) rfl rfl (step_fieldAddr_ro (off := 2) rfl (ev_mk rfl) Try.underlying43 rfl F.sz3 rfl rfl) trivial ?_
            refine dl0 (gy rfl rfl rfl rfl rfl rfl) rfl rfl (step_load_ro rfl (ev_mk rfl) F.one3 rfl) trivial ?_
            refine dl_neq (gy rfl rfl rfl rfl rfl rfl) rfl rfl rfl rfl rfl (fun h5 => ?_) (fun h5 => ?_)
            · exact False.elim (by exact h5 rfl)
            refine dl0 (gy rfl rfl rfl rfl rfl rfl) rfl rfl (step_pick rfl (ev_mk rfl) (ev_mk rfl)) trivial ?_
            refine dl0 (gy rfl rfl rfl rfl rfl rfl) rfl rfl (step_pick rfl (ev_mk rfl) (ev_mk rfl)) trivial ?_
            refine dl0 (gn rfl) rfl rfl (step_pick rfl (ev_mk rfl) (ev_mk rfl)) trivial ?_
            refine dlnil ?_ ?_
            · repeat' (first | exact trivial | exact .inr (ap0 _ _ _ _) | exact .inr (ap2 _ _ _ _) | exact .inr (ap3 _ _ _ _) | exact .inr ⟨by first | (simp; done) | (simp; omega), by first | (simp; done) | (simp; omega)⟩ | exact .inl (by kernel_rfl) | refine ⟨?_, ?_⟩ | fail)
            refine runs_cond false (ev_mk rfl) (fun h_ => nomatch h_) (fun _ => ?_)
            refine runs_skip ?_
            refine runs_seq ?_
            refine runs_draw (by kernel_rfl) (by kernel_rfl) (by kernel_rfl) ?_
            refine' dl0 (gn rfl) rfl rfl (step_load_one rfl (ev_mk rfl) F.one3 ?hv) ⟨?hb, trivial⟩ ?_
            case hb => repeat (first | exact uE | refine uN (by omega) ?_ | assumption | exact hd _ (by omega) | exact hd0 _ (by omega) | fail)
            case hv => rfl
            refine' dl0 (gn rfl) rfl rfl (step_load_one rfl (ev_mk rfl) F.one33 ?hv) ⟨?hb, trivial⟩ ?_
            case hb => repeat (first | exact uE | refine uN (by omega) ?_ | assumption | exact hd _ (by omega) | exact hd0 _ (by omega) | fail)
            case hv => rfl
            refine dl0 (gn rfl) rfl rfl (step_len (m := (allL o r th).length) rfl rfl (ev_mk rfl) (.inl ⟨⟨_, Try.underlying33⟩, .inl ⟨_, _, .inl rfl, List.length_map _⟩⟩)) trivial ?_
            refine dl_eql (gn rfl) rfl rfl rfl rfl rfl (fun h6 => ?_) (fun h6 => ?_)
            rotate_left
            · exact False.elim (by omega)
            refine dl0 (gn rfl) rfl rfl (step_mv rfl rfl) trivial ?_
            refine' dl0 (gy rfl rfl rfl rfl rfl rfl) rfl rfl (step_load_one rfl (ev_mk rfl) F.one3 ?hv) ⟨?hb, trivial⟩ ?_
            case hb => repeat (first | exact uE | refine uN (by omega) ?_ | assumption | exact hd _ (by omega) | exact hd0 _ (by omega) | fail)
            case hv => rfl
            refine' dl0 (gy rfl rfl rfl rfl rfl rfl) rfl rfl (step_load_all rfl rfl F.agg27 ?hl) ⟨?hb, trivial⟩ ?_
            case hb => repeat (first | exact uE | refine uN (by omega) ?_ | assumption | exact hd _ (by omega) | exact hd0 _ (by omega) | fail)
            case hl => first | rfl | (simp; done) | (first | (simp; done) | (simp; omega) | omega)
            refine dl0 (gy rfl rfl rfl rfl rfl rfl) rfl rfl (step_callc rfl Try.func13 rfl rfl rfl (cnt_n o ho) (by repeat (first | exact .nil | refine .cons ?_ ?_ | exact VLe.refl _ | exact VLe.own_sl _ _ _ | exact VLe.fl_sl _ _ | exact VLe.nil_sl _ | exact VLe.nil_fl _ | refine VLe.agg ?_))) trivial ?_
            refine dl_leq (gy rfl rfl rfl rfl rfl rfl) rfl rfl rfl rfl rfl (fun h7 => ?_) (fun h7 => ?_)
            rotate_left
            · exact False.elim (by omega)
            refine dl0 (gn rfl) rfl rfl (step_pick rfl (ev_mk rfl) (ev_mk rfl)) trivial ?_
            refine dl0 (gn rfl) rfl rfl (step_mv rfl rfl) trivial ?_
            refine dl0 (gy rfl rfl rfl rfl rfl rfl) rfl rfl (step_callc rfl Try.func6 rfl rfl rfl (works_c) (by repeat (first | exact .nil | refine .cons ?_ ?_ | exact VLe.refl _ | exact VLe.own_sl _ _ _ | exact VLe.fl_sl _ _ | exact VLe.nil_sl _ | exact VLe.nil_fl _ | refine VLe.agg ?_))) trivial ?_
            refine dl0 (gn rfl) rfl rfl (step_pick rfl (ev_mk rfl) (ev_mk rfl)) trivial ?_
            refine' dls (gn rfl) rfl (step_store1 rfl rfl rfl rfl F.one4 rfl rfl ?hl ?hc) ⟨?hb, trivial⟩ ?hk ?_
            case hb => repeat (first | exact uE | refine uN (by omega) ?_ | assumption | exact hd _ (by omega) | exact hd0 _ (by omega) | fail)
            case hl => first | exact Nat.le_of_ble_eq_true rfl | decide | (simp; done) | (simp; omega) | (first | (simp; done) | (simp; omega) | omega)
            case hc => first | (simp only [List.set_cons_succ, List.set_cons_zero]; rfl) | rfl
            case hk => omega
            refine dlnil ?_ ?_
            · repeat' (first | exact trivial | exact .inr (ap0 _ _ _ _) | exact .inr (ap2 _ _ _ _) | exact .inr (ap3 _ _ _ _) | exact .inr ⟨by first | (simp; done) | (simp; omega), by first | (simp; done) | (simp; omega)⟩ | exact .inl (by kernel_rfl) | refine ⟨?_, ?_⟩ | fail)
            refine runs_ret ?_
            refine ⟨by first | exact .inr rfl | exact .inl rfl, fin_mkg (resc1 rfl (by repeat (first | exact uE | refine uN (by omega) ?_ | assumption | exact hd _ (by omega) | exact hd0 _ (by omega) | fail)) F.one4 rfl res0) ?_ ?_ ?_ ?_ ?_⟩
            · (repeat' (first | exact VLe.refl _ | exact VLe.own_sl _ _ _ | exact VLe.fl_sl _ _ | exact VLe.nil_sl _ | exact VLe.nil_fl _ | exact VLes.refl _ | exact .nil | refine VLe.tup ?_ | refine VLe.agg ?_ | refine .cons ?_ ?_ | (rw [Int.natCast_add]; exact VLe.refl _) | exact vle_int (by omega) | exact vle_bool (by first | rfl | assumption | (simp_all; done) | fail) | fail))
            · first | ((repeat (first | exact trivial | assumption | omega | (simp only [V.bd]; omega) | refine ⟨?_, ?_⟩ | fail)); done) | (repeat (first | exact trivial | assumption | omega | (refine bdR_map (fun _ => ?_)) | (refine bdL_map (fun _ => ?_)) | refine ⟨?_, ?_⟩ | fail))
            · intro k_ hk_; exact ble (by repeat (first | exact rfl | refine uN (by omega) ?_ | assumption | exact hf0 _ (by omega) (by first | assumption | omega) | fail))
            · intro p hp; cases hp
            · first | ((repeat (first | exact trivial | assumption | omega | (simp only [V.bd]; omega) | refine ⟨?_, ?_⟩ | fail)); done) | (repeat (first | exact trivial | assumption | omega | (refine bdR_map (fun _ => ?_)) | (refine bdL_map (fun _ => ?_)) | refine ⟨?_, ?_⟩ | fail))
        · skip
          refine dl0 (gn rfl) rfl rfl (step_mv rfl rfl) trivial ?_
          refine dlk rfl rfl rfl rfl rfl (ngb rfl rfl) rfl rfl ?_
          refine dlk rfl rfl rfl rfl rfl (ngb rfl rfl) rfl rfl ?_
          refine dlk rfl rfl rfl rfl rfl (ngb rfl rfl) rfl rfl ?_
          refine dlk rfl rfl rfl rfl rfl (ngb rfl rfl) rfl rfl ?_
          refine dlk rfl rfl rfl rfl rfl (ngb rfl rfl) rfl rfl ?_
          refine dlk rfl rfl rfl rfl rfl (ngb rfl rfl) rfl rfl ?_
          refine dlk rfl rfl rfl rfl rfl (ngb rfl rfl) rfl rfl ?_
          refine dlk rfl rfl rfl rfl rfl (ngb rfl rfl) rfl rfl ?_
          refine dlk rfl rfl rfl rfl rfl (ngb rfl rfl) rfl rfl ?_
          refine dlk rfl rfl rfl rfl rfl (ngb rfl rfl) rfl rfl ?_
          refine dlk rfl rfl rfl rfl rfl (ngb rfl rfl) rfl rfl ?_
          refine dlk rfl rfl rfl rfl rfl (ngb rfl rfl) rfl rfl ?_
          refine dlk rfl rfl rfl rfl rfl (ngb rfl rfl) rfl rfl ?_
          refine dl0 (gn rfl) rfl rfl (step_pick rfl (ev_mk rfl) (ev_mk rfl)) trivial ?_
          refine dlnil ?_ ?_
          · repeat' (first | exact trivial | exact .inr (ap0 _ _ _ _) | exact .inr (ap2 _ _ _ _) | exact .inr (ap3 _ _ _ _) | exact .inr ⟨by first | (simp; done) | (simp; omega), by first | (simp; done) | (simp; omega)⟩ | exact .inl (by kernel_rfl) | refine ⟨?_, ?_⟩ | fail)
          refine runs_cond false (ev_mk rfl) (fun h_ => nomatch h_) (fun _ => ?_)
          refine runs_exit ?_
          refine runs_seq ?_
          refine runs_region ?_
          refine' rl0 (gn rfl) rfl rfl (step_load_all rfl rfl F.agg27 ?hl) ⟨?hb, trivial⟩ ?_
          case hb => repeat (first | exact uE | refine uN (by omega) ?_ | assumption | exact hd _ (by omega) | exact hd0 _ (by omega) | fail)
          case hl => first | rfl | (simp; done) | (first | (simp; done) | (simp; omega) | omega)
          refine rl0 (gn rfl) rfl rfl (step_mv rfl rfl) trivial ?_
          refine rl0 (gn rfl) rfl rfl (step_mv rfl rfl) trivial ?_
          refine rl0 (gn rfl) rfl rfl (step_callc rfl Try.func12 rfl rfl rfl (next_no_7 o r th (kr := n + 1) (kt := n + 2) (ko := n + 0) (km := n + 3) ms hb (by omega) ho hr hk (cov_all hF0_1 (by omega))) (by repeat (first | exact .nil | refine .cons ?_ ?_ | exact VLe.refl _ | exact VLe.own_sl _ _ _ | exact VLe.fl_sl _ _ | exact VLe.nil_sl _ | exact VLe.nil_fl _ | refine VLe.agg ?_))) ⟨by repeat (first | exact uE | refine uN (by omega) ?_ | assumption | exact hd _ (by omega) | exact hd0 _ (by omega) | fail), by repeat (first | exact uE | refine uN (by omega) ?_ | assumption | exact hd _ (by omega) | exact hd0 _ (by omega) | fail), by repeat (first | exact uE | refine uN (by omega) ?_ | assumption | exact hd _ (by omega) | exact hd0 _ (by omega) | fail), by repeat (first | exact uE | refine uN (by omega) ?_ | assumption | exact hd _ (by omega) | exact hd0 _ (by omega) | fail), trivial⟩ ?_
          refine rl0 (gn rfl) rfl rfl (step_mv rfl rfl) trivial ?_
          refine rl0 (gn rfl) rfl rfl (step_extract rfl (ev_mk rfl) rfl) trivial ?_
          refine rl0 (gn rfl) rfl rfl (step_extract rfl (ev_mk rfl) rfl) trivial ?_
          refine rl1 (gn rfl) rfl rfl (step_allocc (k := m0 + 0) (zs := [.int .i64 0, .int .u64 0, .int .i64 0]) (cs := [.sc (.int .i64 0), .sc (.int .u64 0), .sc (.int .i64 0)]) rfl F.zero41 (by first | rfl | simp) (by first | rfl | decide | simp) (by first | rfl | simp)) ⟨by repeat (first | exact uE | refine uN (by omega) ?_ | assumption | exact hd _ (by omega) | exact hd0 _ (by omega) | fail), trivial⟩ (by omega) ?_
          refine' rls (gn rfl) rfl (step_storeA rfl rfl rfl rfl F.agg41 ?hm ?hl) ⟨?hb, trivial⟩ ?hk ?_
          case hb => repeat (first | exact uE | refine uN (by omega) ?_ | assumption | exact hd _ (by omega) | exact hd0 _ (by omega) | fail)
          case hm => first | rfl | (simp; done) | (first | (simp; done) | (simp; omega) | omega)
          case hl => first | rfl | (simp; done) | (first | (simp; done) | (simp; omega) | omega)
          case hk => omega
          refine rl0 (gn rfl) rfl rfl (step_as rfl rfl) trivial ?_
          refine runsL_nil ?_
          refine runs_seq ?_
          refine runs_seq ?_
          refine runs_draw (by kernel_rfl) (by kernel_rfl) (by kernel_rfl) ?_
          refine dl0 (gn rfl) rfl rfl (step_mv rfl rfl) trivial ?_
          refine dl0 (gn rfl) rfl rfl (step_mv rfl rfl) trivial ?_
          refine' dl0 (gn rfl) rfl rfl (step_load_one rfl (ev_mk rfl) F.one33 ?hv) ⟨?hb, trivial⟩ ?_
          case hb => repeat (first | exact uE | refine uN (by omega) ?_ | assumption | exact hd _ (by omega) | exact hd0 _ (by omega) | fail)
          case hv => rfl
          refine dl0 (gn rfl) rfl rfl (step_len (m := (allL o r th).length) rfl rfl (ev_mk rfl) (.inl ⟨⟨_, Try.underlying33⟩, .inl ⟨_, _, .inl rfl, List.length_map _⟩⟩)) trivial ?_
          refine dl_lss (gn rfl) rfl rfl rfl rfl rfl (fun h3 => ?_) (fun h3 => ?_)
          · exact False.elim (by omega)
          refine dl0 (gn rfl) rfl rfl (step_binOp (c := .bool false) rfl (ev_mk rfl) (ev_mk rfl) (fun _ => rfl)) trivial ?_
          refine dl0 (gn rfl) rfl rfl (step_mv rfl rfl) trivial ?_
          refine dl0 (gy rfl rfl rfl rfl rfl rfl) rfl rfl (step_mv rfl rfl) trivial ?_
          refine dl0 (gy rfl rfl rfl rfl rfl rfl) rfl rfl (step_mv rfl rfl) trivial ?_
          refine dlk rfl rfl rfl rfl rfl (ngb rfl rfl) rfl rfl ?_
          refine dlk rfl rfl rfl rfl rfl (ngb rfl rfl) rfl rfl ?_
          refine dlk rfl rfl rfl rfl rfl (ngb rfl rfl) rfl rfl ?_
          refine dlk rfl rfl rfl rfl rfl (ngb rfl rfl) rfl rfl ?_
          refine dlk rfl rfl rfl rfl rfl (ngb rfl rfl) rfl rfl ?_
          refine dlk rfl rfl rfl rfl rfl (ngb rfl rfl) rfl rfl ?_
          refine dlk rfl rfl rfl rfl rfl (ngb rfl rfl) rfl rfl ?_
          refine dlk rfl rfl rfl rfl rfl (ngb rfl rfl) rfl rfl ?_
          refine dlk rfl rfl rfl rfl rfl (ngb rfl rfl) rfl rfl ?_
          refine dlk rfl rfl rfl rfl rfl (ngu rfl) rfl rfl ?_
          refine dlk rfl rfl rfl rfl rfl (ngu rfl) rfl rfl ?_
          refine dlk rfl rfl rfl rfl rfl (ngu rfl) rfl rfl ?_
          refine dlk rfl rfl rfl rfl rfl (ngu rfl) rfl rfl ?_
          refine dlk rfl rfl rfl rfl rfl (ngu rfl) rfl rfl ?_
          refine dlk rfl rfl rfl rfl rfl (ngu rfl) rfl rfl ?_
          refine dlk rfl rfl rfl rfl rfl (ngu rfl) rfl rfl ?_
          refine dlk rfl rfl rfl rfl rfl (ngu rfl) rfl rfl ?_
          refine dlk rfl rfl rfl rfl rfl (ngb rfl rfl) rfl rfl ?_
          refine dl0 (gy rfl rfl rfl rfl rfl rfl) rfl rfl (step_pick rfl (ev_mk rfl) (ev_mk rfl)) trivial ?_
          refine dl0 (gn rfl) rfl rfl (step_pick rfl (ev_mk rfl) (ev_mk rfl)) trivial ?_
          refine dlnil ?_ ?_
          · repeat' (first | exact trivial | exact .inr (ap0 _ _ _ _) | exact .inr (ap2 _ _ _ _) | exact .inr (ap3 _ _ _ _) | exact .inr ⟨by first | (simp; done) | (simp; omega), by first | (simp; done) | (simp; omega)⟩ | exact .inl (by kernel_rfl) | refine ⟨?_, ?_⟩ | fail)
          refine runs_cond false (ev_mk rfl) (fun h_ => nomatch h_) (fun _ => ?_)
          refine runs_skip ?_
          refine runs_seq ?_
          refine runs_draw (by kernel_rfl) (by kernel_rfl) (by kernel_rfl) ?_
          refine' dl0 (gn rfl) rfl rfl (step_load_one rfl (ev_mk rfl) F.one3 ?hv) ⟨?hb, trivial⟩ ?_
          case hb => repeat (first | exact uE | refine uN (by omega) ?_ | assumption | exact hd _ (by omega) | exact hd0 _ (by omega) | fail)
          case hv => rfl
          refine' dl0 (gn rfl) rfl rfl (step_load_one rfl (ev_mk rfl) F.one33 ?hv) ⟨?hb, trivial⟩ ?_
          case hb => repeat (first | exact uE | refine uN (by omega) ?_ | assumption | exact hd _ (by omega) | exact hd0 _ (by omega) | fail)
          case hv => rfl
          refine dl0 (gn rfl) rfl rfl (step_len (m := (allL o r th).length) rfl rfl (ev_mk rfl) (.inl ⟨⟨_, Try.underlying33⟩, .inl ⟨_, _, .inl rfl, List.length_map _⟩⟩)) trivial ?_
          refine dl_eql (gn rfl) rfl rfl rfl rfl rfl (fun h4 => ?_) (fun h4 => ?_)
          rotate_left
          · exact False.elim (by omega)
          refine dl0 (gn rfl) rfl rfl (step_mv rfl rfl) trivial ?_
          refine' dl0 (gy rfl rfl rfl rfl rfl rfl) rfl rfl (step_load_one rfl (ev_mk rfl) F.one3 ?hv) ⟨?hb, trivial⟩ ?_
          case hb => repeat (first | exact uE | refine uN (by omega) ?_ | assumption | exact hd _ (by omega) | exact hd0 _ (by omega) | fail)
          case hv => rfl
          refine' dl0 (gy rfl rfl rfl rfl rfl rfl) rfl rfl (step_load_all rfl rfl F.agg27 ?hl) ⟨?hb, trivial⟩ ?_
          case hb => repeat (first | exact uE | refine uN (by omega) ?_ | assumption | exact hd _ (by omega) | exact hd0 _ (by omega) | fail)
          case hl => first | rfl | (simp; done) | (first | (simp; done) | (simp; omega) | omega)
          refine dl0 (gy rfl rfl rfl rfl rfl rfl) rfl rfl (step_callc rfl Try.func13 rfl rfl rfl (cnt_n o ho) (by repeat (first | exact .nil | refine .cons ?_ ?_ | exact VLe.refl _ | exact VLe.own_sl _ _ _ | exact VLe.fl_sl _ _ | exact VLe.nil_sl _ | exact VLe.nil_fl _ | refine VLe.agg ?_))) trivial ?_
          refine dl_leq (gy rfl rfl rfl rfl rfl rfl) rfl rfl rfl rfl rfl (fun h5 => ?_) (fun h5 => ?_)
          rotate_left
          · exact False.elim (by omega)
          refine dl0 (gn rfl) rfl rfl (step_pick rfl (ev_mk rfl) (ev_mk rfl)) trivial ?_
          refine dl0 (gn rfl) rfl rfl (step_mv rfl rfl) trivial ?_
          refine dl0 (gy rfl rfl rfl rfl rfl rfl) rfl rfl (step_callc rfl Try.func6 rfl rfl rfl (works_c) (by repeat (first | exact .nil | refine .cons ?_ ?_ | exact VLe.refl _ | exact VLe.own_sl _ _ _ | exact VLe.fl_sl _ _ | exact VLe.nil_sl _ | exact VLe.nil_fl _ | refine VLe.agg ?_))) trivial ?_
          refine dl0 (gn rfl) rfl rfl (step_pick rfl (ev_mk rfl) (ev_mk rfl)) trivial ?_
          refine' dls (gn rfl) rfl (step_store1 rfl rfl rfl rfl F.one4 rfl rfl ?hl ?hc) ⟨?hb, trivial⟩ ?hk ?_
          case hb => repeat (first | exact uE | refine uN (by omega) ?_ | assumption | exact hd _ (by omega) | exact hd0 _ (by omega) | fail)
          case hl => first | exact Nat.le_of_ble_eq_true rfl | decide | (simp; done) | (simp; omega) | (first | (simp; done) | (simp; omega) | omega)
          case hc => first | (simp only [List.set_cons_succ, List.set_cons_zero]; rfl) | rfl
          case hk => omega
          refine dlnil ?_ ?_
          · repeat' (first | exact trivial | exact .inr (ap0 _ _ _ _) | exact .inr (ap2 _ _ _ _) | exact .inr (ap3 _ _ _ _) | exact .inr ⟨by first | (simp; done) | (simp; omega), by first | (simp; done) | (simp; omega)⟩ | exact .inl (by kernel_rfl) | refine ⟨?_, ?_⟩ | fail)
          refine runs_ret ?_
          refine ⟨by first | exact .inr rfl | exact .inl rfl, fin_mkg (resc1 rfl (by repeat (first | exact uE | refine uN (by omega) ?_ | assumption | exact hd _ (by omega) | exact hd0 _ (by omega) | fail)) F.one4 rfl res0) ?_ ?_ ?_ ?_ ?_⟩
          · (repeat' (first | exact VLe.refl _ | exact VLe.own_sl _ _ _ | exact VLe.fl_sl _ _ | exact VLe.nil_sl _ | exact VLe.nil_fl _ | exact VLes.refl _ | exact .nil | refine VLe.tup ?_ | refine VLe.agg ?_ | refine .cons ?_ ?_ | (rw [Int.natCast_add]; exact VLe.refl _) | exact vle_int (by omega) | exact vle_bool (by first | rfl | assumption | (simp_all; done) | fail) | fail))
          · first | ((repeat (first | exact trivial | assumption | omega | (simp only [V.bd]; omega) | refine ⟨?_, ?_⟩ | fail)); done) | (repeat (first | exact trivial | assumption | omega | (refine bdR_map (fun _ => ?_)) | (refine bdL_map (fun _ => ?_)) | refine ⟨?_, ?_⟩ | fail))
          · intro k_ hk_; exact ble (by repeat (first | exact rfl | refine uN (by omega) ?_ | assumption | exact hf0 _ (by omega) (by first | assumption | omega) | fail))
          · intro p hp; cases hp
          · first | ((repeat (first | exact trivial | assumption | omega | (simp only [V.bd]; omega) | refine ⟨?_, ?_⟩ | fail)); done) | (repeat (first | exact trivial | assumption | omega | (refine bdR_map (fun _ => ?_)) | (refine bdL_map (fun _ => ?_)) | refine ⟨?_, ?_⟩ | fail))
end Go.Proofs.Ythpkhecialkmmaa

