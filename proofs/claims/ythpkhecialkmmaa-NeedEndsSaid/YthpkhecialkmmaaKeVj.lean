/- Walks by the logic of values. -/
import Derived.Test.YthpkhecialkmmaaKeVmT
import Derived.Test.YthpkhecialkmmaaKeVmP
import Derived.Test.YthpkhecialkmmaaKeVmV
import Derived.Test.YthpkhecialkmmaaKeVmO
import Derived.Test.YthpkhecialkmmaaKeVa
import Derived.Test.YthpkhecialkmmaaKeVb
import Derived.Test.YthpkhecialkmmaaKeVc
import Derived.Test.YthpkhecialkmmaaKeVd
import Derived.Test.YthpkhecialkmmaaKeVf
import Derived.Test.YthpkhecialkmmaaKeVh
import Derived.Test.YthpkhecialkmmaaKeVi
namespace Go.Proofs.Ythpkhecialkmmaa
open Go.Vm
set_option linter.unusedVariables false
set_option linter.unusedSimpArgs false
/-! Two things apart. -/
def badW (x y : Wt) : Bool := decide (x.k = y.k ∧ x.n = y.n) && !tgF x.m y.m
def apF (l m : List Wt) : Bool := l.all fun x => m.all fun y => !badW x y
theorem all_first {α : Type} {p : α → Bool} : ∀ {l : List α}, l.all p = false → ∃ (i : Nat) (x : α), l[i]? = some x ∧ p x = false ∧ ∀ (j : Nat) x', j < i → l[j]? = some x' → p x' = true
  | [], h => by simp at h
  | a :: l, h => by
    cases ha : p a with
    | false => exact ⟨0, a, rfl, ha, fun j x' hj => absurd hj (Nat.not_lt_zero j)⟩
    | true =>
      have h' : l.all p = false := by simpa [ha] using h
      obtain ⟨i, x, h1, h2, h3⟩ := all_first h'
      refine ⟨i + 1, x, by simpa using h1, h2, fun j x' hj hx => ?_⟩
      cases j with
      | zero => simp at hx; subst hx; exact ha
      | succ j => exact h3 j x' (by omega) (by simpa using hx)
theorem all_at {α : Type} {p : α → Bool} {l : List α} (h : l.all p = true) {i : Nat} {x : α} (hx : l[i]? = some x) : p x = true := List.all_eq_true.1 h x (List.mem_of_getElem? hx)
theorem bad_ne {x y : Wt} (h : (!badW x y) = true) (h2 : x.k = y.k ∧ x.n = y.n) : tgF x.m y.m = true := by
  unfold badW at h; rw [decide_eq_true h2] at h; simpa using h
theorem bad_yes {x y : Wt} (h : (!badW x y) = false) : (x.k = y.k ∧ x.n = y.n) ∧ tgF x.m y.m = false := by
  unfold badW at h; simpa using h
theorem shape39 : shapeOf Try.prog 3 39 = some [CK.i .i64, CK.i .u64] := by kernel_rfl
theorem eqg39 : Try.prog.eqGuardType Try.prog.depth 39 = false := by kernel_rfl
def rsV (k n : Int) : List Value := [.int .i64 k, .int .u64 n]
theorem rs_eq {a b c d : Int} : eqCs (rsV a b) (rsV c d) = true ↔ a = c ∧ b = d := by simp [rsV, eqCs, eqC]
theorem step_eql39 {o : Oper} {t : Nat → V} {x y : Operand} {a b c d : Int} {ty2 : TypeId} (ho : o.op = .binOp .eql 39 x y ty2) (hx : ev t x = .agg [.sc (.int .i64 a), .sc (.int .u64 b)]) (hy : ev t y = .agg [.sc (.int .i64 c), .sc (.int .u64 d)]) : StepOK Try.prog o t [] [] (.sc (.bool (eqCs (rsV a b) (rsV c d)))) :=
  step_eq_agg (xs := rsV a b) (ys := rsV c d) ho hx hy shape39 (by omega) ⟨_, Try.underlying39, rfl⟩ eqg39 rfl rfl (.inl ⟨rfl, rfl⟩)
set_option maxRecDepth 100000 in
set_option maxHeartbeats 4000000 in
theorem ap_yes_20 (oa ob : Op1) (ra rb : Rc1) (ta tb : Bool) (hqra : ra = ⟨0, oa.key, 536870912, 0, ByteArray.empty, false⟩) (hqta : ta = decide (oa.key = 5)) (hqrb : rb = ⟨0, ob.key, 536870912, 0, ByteArray.empty, false⟩) (hqtb : tb = decide (ob.key = 5)) (hoa : OkO oa) (hob : OkO ob) (hra : OkR ra) (hrb : OkR rb) (hka : 0 ≤ oa.key) (hkb : 0 ≤ ob.key) (hap : apF (allL oa ra ta) (allL ob rb tb) = true) : Does Try.prog 16 [.agg (opC oa), .agg (opC ob), .sc (.func (.func 20) #[] #[])] [] [] (.sc (.bool true)) := by
  refine does_mkr 40 Try.func16 rfl rfl rfl (fun n B bx hd hpre hup hvs hbx hgx hO => ?_)
  refine runs_seq ?_
  refine runs_region ?_
  refine rl1 (gn rfl) rfl rfl (step_box_agg (k := n + 0) rfl rfl) ⟨by repeat (first | exact uE | refine uN (by omega) ?_ | assumption | exact hd _ (by omega) | fail), trivial⟩ (by omega) ?_
  refine rl1 (gn rfl) rfl rfl (step_box_agg (k := n + 1) rfl rfl) ⟨by repeat (first | exact uE | refine uN (by omega) ?_ | assumption | exact hd _ (by omega) | fail), trivial⟩ (by omega) ?_
  refine rl1 (gn rfl) rfl rfl (step_box_one (k := n + 2) rfl rfl rfl rfl) ⟨by repeat (first | exact uE | refine uN (by omega) ?_ | assumption | exact hd _ (by omega) | fail), trivial⟩ (by omega) ?_
  refine rl1 (gn rfl) rfl rfl (step_allocc (k := n + 3) (zs := [.bool false]) (cs := [.sc (.bool false)]) rfl F.zero4 (by first | rfl | simp) (by first | rfl | decide | simp) (by first | rfl | simp)) ⟨by repeat (first | exact uE | refine uN (by omega) ?_ | assumption | exact hd _ (by omega) | fail), trivial⟩ (by omega) ?_
  refine runsL_nil ?_
  refine runs_seq ?_
  refine runs_seq ?_
  refine runs_region ?_
  refine' rl0 (gn rfl) rfl rfl (step_load_all rfl rfl F.agg27 ?hl) ⟨?hb, trivial⟩ ?_
  case hb => repeat (first | exact uE | refine uN (by omega) ?_ | assumption | exact hd _ (by omega) | fail)
  case hl => first | rfl | (simp; done) | (first | (simp; done) | (simp; omega) | omega)
  refine' rl0 (gn rfl) rfl rfl (step_load_one rfl (ev_mk rfl) F.one32 ?hv) ⟨?hb, trivial⟩ ?_
  case hb => repeat (first | exact uE | refine uN (by omega) ?_ | assumption | exact hd _ (by omega) | fail)
  case hv => rfl
  refine rl2 (gn rfl) rfl rfl (step_callc rfl Try.func9 rfl rfl rfl (nall_20 oa (k2 := (n + 4)) (kf := (n + 5)) (by omega)) (by repeat (first | exact .nil | refine .cons ?_ ?_ | exact VLe.refl _ | exact VLe.own_sl _ _ _ | exact VLe.fl_sl _ _ | exact VLe.nil_sl _ | exact VLe.nil_fl _ | refine VLe.agg ?_))) ⟨by repeat (first | exact uE | refine uN (by omega) ?_ | assumption | exact hd _ (by omega) | fail), by repeat (first | exact uE | refine uN (by omega) ?_ | assumption | exact hd _ (by omega) | fail), trivial⟩ (by omega) (by omega) ?_
  refine runsL_nil ?_
  refine runs_block ?_
  refine runs_rangeL (f := 24) (caps := [.ref (n + 4) 0, .ref (n + 5) 0]) (xs := (allL oa ra ta).map enW) (Dl := []) (El := [(n + 4, .cells (opC oa), fun m_ b_ => .cells (opC oa)), (n + 5, .cells [.sc (.func (.func 20) #[] #[])], fun m_ b_ => .cells [.sc (.func (.func 20) #[] #[])])]) (kl := n + 6) (m := (allL oa ra ta).length) (brk := false) (ex := .normal) hO rfl (.inl rfl) Try.func24 rfl rfl (all_20 oa ra ta hqra hqta (by omega) hoa hra) trivial (by repeat (first | exact uE | refine uN (by omega) ?_ | assumption | exact hd _ (by omega) | fail)) (by omega) (by simp) (fun h_ => nomatch h_) (fun _ => ⟨by simp, rfl⟩) (fun v_ hv_ => by obtain ⟨_, _, rfl⟩ := List.mem_map.1 hv_; rfl) rfl trivial trivial ⟨⟨by dsimp only; omega, by dsimp only; omega, by dsimp only; repeat (first | exact uE | refine uN (by omega) ?_ | assumption | exact hd _ (by omega) | fail)⟩, ⟨by dsimp only; omega, by dsimp only; omega, by dsimp only; repeat (first | exact uE | refine uN (by omega) ?_ | assumption | exact hd _ (by omega) | fail)⟩, trivial⟩ (fun i60 => trivial) ⟨bdb_cells (by repeat (first | exact trivial | assumption | omega | (refine bdR_map (fun _ => ?_)) | (refine bdL_map (fun _ => ?_)) | refine ⟨?_, ?_⟩ | fail)), bdb_cells (by repeat (first | exact trivial | assumption | omega | (refine bdR_map (fun _ => ?_)) | (refine bdL_map (fun _ => ?_)) | refine ⟨?_, ?_⟩ | fail)), trivial⟩ ?_ ?_
  · intro i60 v60 hi60 hv60 B60 n60 lr60 bx60 hR60 hl60 hk60 ho60 he60 hn60 hd60 hD60 hfr60
    have hf60 : ∀ k_, k_ < _ → k_ ≠ n + 4 → k_ ≠ n + 5 → k_ ≠ n + 6 → bx60 k_ = _ := fun k_ a_ e0_ e1_ e2_ => hfr60 k_ a_ ⟨e0_, e1_, trivial⟩ e2_
    have hc60_0 : bx60 (n + 0) = .cells [.sc (.int .i64 oa.k), .sc (.int .u64 oa.key), .sc (.int .u32 oa.x), .sc (.int .u32 oa.y), .sc (.string oa.v), .sc (.int .u32 oa.a), .sc (.int .u32 oa.b), .sc (.int .u32 oa.c), .sc (.int .u32 oa.d), .sc (.int .i64 oa.n)] := (hf60 _ (by omega) (by omega) (by omega) (by omega)).trans (by repeat (first | exact uE | refine uN (by omega) ?_ | assumption | exact hd _ (by omega) | fail))
    have hc60_1 : bx60 (n + 1) = .cells [.sc (.int .i64 ob.k), .sc (.int .u64 ob.key), .sc (.int .u32 ob.x), .sc (.int .u32 ob.y), .sc (.string ob.v), .sc (.int .u32 ob.a), .sc (.int .u32 ob.b), .sc (.int .u32 ob.c), .sc (.int .u32 ob.d), .sc (.int .i64 ob.n)] := (hf60 _ (by omega) (by omega) (by omega) (by omega)).trans (by repeat (first | exact uE | refine uN (by omega) ?_ | assumption | exact hd _ (by omega) | fail))
    have hc60_2 : bx60 (n + 2) = .cells [.sc (.func (.func 20) #[] #[])] := (hf60 _ (by omega) (by omega) (by omega) (by omega)).trans (by repeat (first | exact uE | refine uN (by omega) ?_ | assumption | exact hd _ (by omega) | fail))
    have hc60_3 : bx60 (n + 3) = .cells [.sc (.bool false)] := (hf60 _ (by omega) (by omega) (by omega) (by omega)).trans (by repeat (first | exact uE | refine uN (by omega) ?_ | assumption | exact hd _ (by omega) | fail))
    obtain ⟨t60, ht60, rfl⟩ := map_get hv60
    have hxa_ := al_ok hoa hra hka (List.mem_of_getElem? ht60)
    refine runs_keep (l' := [(12, .agg [.sc (.int .i64 t60.k), .sc (.int .u64 t60.n), .sc (.int .i64 t60.m)]), (4, .ref (n + 1) 0), (5, .ref (n + 2) 0), (6, .ref (n + 3) 0)]) ?_ ?_
    · (repeat' (first | exact trivial | refine ⟨⟨_, rfl, ?_⟩, ?_⟩ | fail)); all_goals (repeat' (first | exact VLe.refl _ | exact VLe.own_sl _ _ _ | exact VLe.fl_sl _ _ | exact VLe.nil_sl _ | exact VLe.nil_fl _ | exact VLes.refl _ | exact .nil | refine VLe.tup ?_ | refine VLe.agg ?_ | refine .cons ?_ ?_ | (rw [Int.natCast_add]; exact VLe.refl _) | exact vle_int (by omega) | exact vle_bool (by first | rfl | assumption | (simp_all; done) | fail) | fail))
    refine runs_bump 40 ?_
    refine runs_region ?_
    refine rl1 (gn rfl) rfl rfl (step_allocc (k := n60 + 0) (zs := [.int .i64 0, .int .u64 0, .int .i64 0]) (cs := [.sc (.int .i64 0), .sc (.int .u64 0), .sc (.int .i64 0)]) rfl F.zero41 (by first | rfl | simp) (by first | rfl | decide | simp) (by first | rfl | simp)) ⟨by repeat (first | exact uE | refine uN (by omega) ?_ | assumption | exact hd _ (by omega) | exact hd60 _ (by omega) | fail), trivial⟩ (by omega) ?_
    refine' rls (gn rfl) rfl (step_storeA rfl rfl rfl rfl F.agg41 ?hm ?hl) ⟨?hb, trivial⟩ ?hk ?_
    case hb => repeat (first | exact uE | refine uN (by omega) ?_ | assumption | exact hd _ (by omega) | exact hd60 _ (by omega) | fail)
    case hm => first | rfl | (simp; done) | (first | (simp; done) | (simp; omega) | omega)
    case hl => first | rfl | (simp; done) | (first | (simp; done) | (simp; omega) | omega)
    case hk => omega
    refine runsL_nil ?_
    refine ⟨rfl, by repeat (first | exact rfl | refine uN (by omega) ?_ | fail), fun r60 => ?_⟩
    show Runs _ _ _ _ ⟨mk _, _ + _, upd _ _ _⟩ _
    refine runs_block ?_
    refine runs_seq ?_
    refine runs_region ?_
    refine' rl0 (gn rfl) rfl rfl (step_load_all rfl rfl F.agg27 ?hl) ⟨?hb, trivial⟩ ?_
    case hb => repeat (first | exact uE | refine uN (by omega) ?_ | assumption | exact hd _ (by omega) | exact hd60 _ (by omega) | fail)
    case hl => first | rfl | (simp; done) | (first | (simp; done) | (simp; omega) | omega)
    refine' rl0 (gn rfl) rfl rfl (step_load_one rfl (ev_mk rfl) F.one32 ?hv) ⟨?hb, trivial⟩ ?_
    case hb => repeat (first | exact uE | refine uN (by omega) ?_ | assumption | exact hd _ (by omega) | exact hd60 _ (by omega) | fail)
    case hv => rfl
    refine rl2 (gn rfl) rfl rfl (step_callc rfl Try.func9 rfl rfl rfl (nall_20 ob (k2 := (n60 + 1)) (kf := (n60 + 2)) (by omega)) (by repeat (first | exact .nil | refine .cons ?_ ?_ | exact VLe.refl _ | exact VLe.own_sl _ _ _ | exact VLe.fl_sl _ _ | exact VLe.nil_sl _ | exact VLe.nil_fl _ | refine VLe.agg ?_))) ⟨by repeat (first | exact uE | refine uN (by omega) ?_ | assumption | exact hd _ (by omega) | exact hd60 _ (by omega) | fail), by repeat (first | exact uE | refine uN (by omega) ?_ | assumption | exact hd _ (by omega) | exact hd60 _ (by omega) | fail), trivial⟩ (by omega) (by omega) ?_
    refine runsL_nil ?_
    refine runs_block ?_
    refine runs_rangeLR (k0 := n + 6) (f := 24) (caps := [.ref (n60 + 1) 0, .ref (n60 + 2) 0]) (xs := (allL ob rb tb).map enW) (Dl := []) (El := [(n60 + 1, .cells (opC ob), fun m_ b_ => .cells (opC ob)), (n60 + 2, .cells [.sc (.func (.func 20) #[] #[])], fun m_ b_ => .cells [.sc (.func (.func 20) #[] #[])])]) (kl := n60 + 3) (m := (allL ob rb tb).length) (brk := false) (ex := .normal) hR60 hl60 (by rw [hk60]; obtain ⟨r_, h_⟩ := ho60; rw [h_]; trivial) (by repeat (first | exact uE | refine uN (by omega) ?_ | assumption | exact hd _ (by omega) | exact hd60 _ (by omega) | fail)) rfl (.inl rfl) Try.func24 rfl rfl (all_20 ob rb tb hqrb hqtb (by omega) hob hrb) trivial (by repeat (first | exact uE | refine uN (by omega) ?_ | assumption | exact hd _ (by omega) | exact hd60 _ (by omega) | fail)) (by omega) (by simp) (fun h_ => nomatch h_) (fun _ => ⟨by simp, rfl⟩) (fun v_ hv_ => by obtain ⟨_, _, rfl⟩ := List.mem_map.1 hv_; rfl) rfl trivial trivial ⟨⟨by dsimp only; omega, by dsimp only; omega, by dsimp only; repeat (first | exact uE | refine uN (by omega) ?_ | assumption | exact hd _ (by omega) | exact hd60 _ (by omega) | fail)⟩, ⟨by dsimp only; omega, by dsimp only; omega, by dsimp only; repeat (first | exact uE | refine uN (by omega) ?_ | assumption | exact hd _ (by omega) | exact hd60 _ (by omega) | fail)⟩, trivial⟩ (fun i61 => trivial) ⟨bdb_cells (by repeat (first | exact trivial | assumption | omega | (refine bdR_map (fun _ => ?_)) | (refine bdL_map (fun _ => ?_)) | refine ⟨?_, ?_⟩ | fail)), bdb_cells (by repeat (first | exact trivial | assumption | omega | (refine bdR_map (fun _ => ?_)) | (refine bdL_map (fun _ => ?_)) | refine ⟨?_, ?_⟩ | fail)), trivial⟩ ?_ ?_
    · intro i61 v61 hi61 hv61 B61 n61 lr61 bx61 hR61 hl61 hk61 ho61 he61 hn61 hd61 hD61 hfr61
      have hf61 : ∀ k_, k_ < _ → k_ ≠ n60 + 1 → k_ ≠ n60 + 2 → k_ ≠ n60 + 3 → bx61 k_ = _ := fun k_ a_ e0_ e1_ e2_ => hfr61 k_ a_ ⟨e0_, e1_, trivial⟩ e2_
      have hc61_0 : bx61 (n + 0) = .cells [.sc (.int .i64 oa.k), .sc (.int .u64 oa.key), .sc (.int .u32 oa.x), .sc (.int .u32 oa.y), .sc (.string oa.v), .sc (.int .u32 oa.a), .sc (.int .u32 oa.b), .sc (.int .u32 oa.c), .sc (.int .u32 oa.d), .sc (.int .i64 oa.n)] := (hf61 _ (by omega) (by omega) (by omega) (by omega)).trans (by repeat (first | exact uE | refine uN (by omega) ?_ | assumption | exact hd _ (by omega) | exact hd60 _ (by omega) | fail))
      have hc61_1 : bx61 (n + 1) = .cells [.sc (.int .i64 ob.k), .sc (.int .u64 ob.key), .sc (.int .u32 ob.x), .sc (.int .u32 ob.y), .sc (.string ob.v), .sc (.int .u32 ob.a), .sc (.int .u32 ob.b), .sc (.int .u32 ob.c), .sc (.int .u32 ob.d), .sc (.int .i64 ob.n)] := (hf61 _ (by omega) (by omega) (by omega) (by omega)).trans (by repeat (first | exact uE | refine uN (by omega) ?_ | assumption | exact hd _ (by omega) | exact hd60 _ (by omega) | fail))
      have hc61_2 : bx61 (n + 2) = .cells [.sc (.func (.func 20) #[] #[])] := (hf61 _ (by omega) (by omega) (by omega) (by omega)).trans (by repeat (first | exact uE | refine uN (by omega) ?_ | assumption | exact hd _ (by omega) | exact hd60 _ (by omega) | fail))
      have hc61_3 : bx61 (n + 3) = .cells [.sc (.bool false)] := (hf61 _ (by omega) (by omega) (by omega) (by omega)).trans (by repeat (first | exact uE | refine uN (by omega) ?_ | assumption | exact hd _ (by omega) | exact hd60 _ (by omega) | fail))
      have hc61_4 : bx61 (n60 + 0) = .cells [.sc (.int .i64 t60.k), .sc (.int .u64 t60.n), .sc (.int .i64 t60.m)] := (hf61 _ (by omega) (by omega) (by omega) (by omega)).trans (by repeat (first | exact uE | refine uN (by omega) ?_ | assumption | exact hd _ (by omega) | exact hd60 _ (by omega) | fail))
      obtain ⟨t61, ht61, rfl⟩ := map_get hv61
      have hxb_ := al_ok hob hrb hkb (List.mem_of_getElem? ht61)
      refine runs_keep (l' := [(16, .agg [.sc (.int .i64 t61.k), .sc (.int .u64 t61.n), .sc (.int .i64 t61.m)]), (6, .ref (n + 3) 0), (7, .ref (n60 + 0) 0)]) ?_ ?_
      · (repeat' (first | exact trivial | refine ⟨⟨_, rfl, ?_⟩, ?_⟩ | fail)); all_goals (repeat' (first | exact VLe.refl _ | exact VLe.own_sl _ _ _ | exact VLe.fl_sl _ _ | exact VLe.nil_sl _ | exact VLe.nil_fl _ | exact VLes.refl _ | exact .nil | refine VLe.tup ?_ | refine VLe.agg ?_ | refine .cons ?_ ?_ | (rw [Int.natCast_add]; exact VLe.refl _) | exact vle_int (by omega) | exact vle_bool (by first | rfl | assumption | (simp_all; done) | fail) | fail))
      refine runs_bump 40 ?_
      refine runs_region ?_
      refine rl1 (gn rfl) rfl rfl (step_allocc (k := n61 + 0) (zs := [.int .i64 0, .int .u64 0, .int .i64 0]) (cs := [.sc (.int .i64 0), .sc (.int .u64 0), .sc (.int .i64 0)]) rfl F.zero41 (by first | rfl | simp) (by first | rfl | decide | simp) (by first | rfl | simp)) ⟨by repeat (first | exact uE | refine uN (by omega) ?_ | assumption | exact hd _ (by omega) | exact hd60 _ (by omega) | exact hd61 _ (by omega) | fail), trivial⟩ (by omega) ?_
      refine' rls (gn rfl) rfl (step_storeA rfl rfl rfl rfl F.agg41 ?hm ?hl) ⟨?hb, trivial⟩ ?hk ?_
      case hb => repeat (first | exact uE | refine uN (by omega) ?_ | assumption | exact hd _ (by omega) | exact hd60 _ (by omega) | exact hd61 _ (by omega) | fail)
      case hm => first | rfl | (simp; done) | (first | (simp; done) | (simp; omega) | omega)
      case hl => first | rfl | (simp; done) | (first | (simp; done) | (simp; omega) | omega)
      case hk => omega
      refine runsL_nil ?_
      refine ⟨rfl, by repeat (first | exact rfl | refine uN (by omega) ?_ | fail), fun r61 => ?_⟩
      show Runs _ _ _ _ ⟨mk _, _ + _, upd _ _ _⟩ _
      refine runs_block ?_
      refine runs_seq ?_
      refine runs_region ?_
      refine rl0 (gn rfl) rfl rfl (step_fieldAddr (off := 0) rfl (ev_mk rfl) Try.underlying41 rfl F.sz39 rfl) trivial ?_
      refine' rl0 (gn rfl) rfl rfl (step_load_agg rfl (ev_mk rfl) F.agg39 ?hc ?hl) ⟨?hb, trivial⟩ ?_
      case hb => repeat (first | exact uE | refine uN (by omega) ?_ | assumption | exact hd _ (by omega) | exact hd60 _ (by omega) | exact hd61 _ (by omega) | fail)
      case hc => rfl
      case hl => first | rfl | (simp; done) | (first | (simp; done) | (simp; omega) | omega)
      refine rl0 (gn rfl) rfl rfl (step_fieldAddr (off := 0) rfl (ev_mk rfl) Try.underlying41 rfl F.sz39 rfl) trivial ?_
      refine' rl0 (gn rfl) rfl rfl (step_load_agg rfl (ev_mk rfl) F.agg39 ?hc ?hl) ⟨?hb, trivial⟩ ?_
      case hb => repeat (first | exact uE | refine uN (by omega) ?_ | assumption | exact hd _ (by omega) | exact hd60 _ (by omega) | exact hd61 _ (by omega) | fail)
      case hc => rfl
      case hl => first | rfl | (simp; done) | (first | (simp; done) | (simp; omega) | omega)
      refine rl0 (gn rfl) rfl rfl (step_eql39 rfl (ev_mk rfl) (ev_mk rfl)) trivial ?_
      refine rl0 (gn rfl) rfl rfl (step_mv rfl rfl) trivial ?_
      refine rl_bool (d := 22) rfl (fun h1 => ?_) (fun h1 => ?_)
      · skip
        refine rl0 (gy rfl rfl rfl rfl rfl rfl) rfl rfl (step_fieldAddr (off := 2) rfl (ev_mk rfl) Try.underlying41 rfl F.sz3 rfl) trivial ?_
        refine' rl0 (gy rfl rfl rfl rfl rfl rfl) rfl rfl (step_load_one rfl (ev_mk rfl) F.one3 ?hv) ⟨?hb, trivial⟩ ?_
        case hb => repeat (first | exact uE | refine uN (by omega) ?_ | assumption | exact hd _ (by omega) | exact hd60 _ (by omega) | exact hd61 _ (by omega) | fail)
        case hv => rfl
        refine rl0 (gy rfl rfl rfl rfl rfl rfl) rfl rfl (step_fieldAddr (off := 2) rfl (ev_mk rfl) Try.underlying41 rfl F.sz3 rfl) trivial ?_
        refine' rl0 (gy rfl rfl rfl rfl rfl rfl) rfl rfl (step_load_one rfl (ev_mk rfl) F.one3 ?hv) ⟨?hb, trivial⟩ ?_
        case hb => repeat (first | exact uE | refine uN (by omega) ?_ | assumption | exact hd _ (by omega) | exact hd60 _ (by omega) | exact hd61 _ (by omega) | fail)
        case hv => rfl
        refine rl0 (gy rfl rfl rfl rfl rfl rfl) rfl rfl (step_callc rfl Try.func35 rfl rfl rfl (tog_c hxa_.2.2 hxb_.2.2) (by repeat (first | exact .nil | refine .cons ?_ ?_ | exact VLe.refl _ | exact VLe.own_sl _ _ _ | exact VLe.fl_sl _ _ | exact VLe.nil_sl _ | exact VLe.nil_fl _ | refine VLe.agg ?_))) trivial ?_
        refine rl_know (d := 27) (c := true) rfl (bad_ne (all_at (all_at hap ht60) ht61) (rs_eq.1 (by assumption))) ?_
        refine rl0 (gy rfl rfl rfl rfl rfl rfl) rfl rfl (step_unOp (c := .bool false) rfl (ev_mk rfl) (fun _ => rfl)) trivial ?_
        refine rl0 (gn rfl) rfl rfl (step_pick rfl (ev_mk rfl) (ev_mk rfl)) trivial ?_
        refine runsL_nil ?_
        refine runs_cond false (ev_mk rfl) (fun h_ => nomatch h_) (fun _ => ?_)
        refine runs_skip ?_
        refine ⟨by exact (if_neg (fun h_ => nomatch h_.1)).symm, by repeat (first | exact uE | refine uN (by omega) ?_ | assumption | exact hd _ (by omega) | exact hd60 _ (by omega) | exact hd61 _ (by omega) | fail), fun k_ hk_ hl_ => ?_⟩
        simp only [dL, updL, List.map_cons, List.map_nil]; exact ble (by repeat (first | exact rfl | refine uN (by first | assumption | omega) ?_ | assumption | exact hf60 _ (by omega) (by first | assumption | omega) (by first | assumption | omega) (by first | assumption | omega) | exact hf61 _ (by omega) (by first | assumption | omega) (by first | assumption | omega) (by first | assumption | omega) | fail))
      · skip
        refine rlk rfl rfl rfl rfl rfl (ngb rfl rfl) rfl rfl ?_
        refine rlk rfl rfl rfl rfl rfl (ngb rfl rfl) rfl rfl ?_
        refine rlk rfl rfl rfl rfl rfl (ngb rfl rfl) rfl rfl ?_
        refine rlk rfl rfl rfl rfl rfl (ngb rfl rfl) rfl rfl ?_
        refine rlk rfl rfl rfl rfl rfl (ngb rfl rfl) rfl rfl ?_
        refine rlk rfl rfl rfl rfl rfl (ngb rfl rfl) rfl rfl ?_
        refine rl0 (gn rfl) rfl rfl (step_pick rfl (ev_mk rfl) (ev_mk rfl)) trivial ?_
        refine runsL_nil ?_
        refine runs_cond false (ev_mk rfl) (fun h_ => nomatch h_) (fun _ => ?_)
        refine runs_skip ?_
        refine ⟨by exact (if_neg (fun h_ => nomatch h_.1)).symm, by repeat (first | exact uE | refine uN (by omega) ?_ | assumption | exact hd _ (by omega) | exact hd60 _ (by omega) | exact hd61 _ (by omega) | fail), fun k_ hk_ hl_ => ?_⟩
        simp only [dL, updL, List.map_cons, List.map_nil]; exact ble (by repeat (first | exact rfl | refine uN (by first | assumption | omega) ?_ | assumption | exact hf60 _ (by omega) (by first | assumption | omega) (by first | assumption | omega) (by first | assumption | omega) | exact hf61 _ (by omega) (by first | assumption | omega) (by first | assumption | omega) (by first | assumption | omega) | fail))
    · intro bb61 b61 hb61
      simp only [dL, eM, updL, List.map_cons, List.map_nil] at hb61
      subst hb61
      refine ⟨by exact (if_neg (fun h_ => nomatch h_.1)).symm, by repeat (first | exact uE | refine uN (by omega) ?_ | assumption | exact hd _ (by omega) | exact hd60 _ (by omega) | fail), fun k_ hk_ hl_ => ?_⟩
      simp only [dL, updL, List.map_cons, List.map_nil]; exact ble (by repeat (first | exact rfl | refine uN (by first | assumption | omega) ?_ | assumption | exact hf60 _ (by omega) (by first | assumption | omega) (by first | assumption | omega) (by first | assumption | omega) | fail))
  · intro bb60 b60 hb60
    simp only [dL, eM, updL, List.map_cons, List.map_nil] at hb60
    subst hb60
    refine runs_seq ?_
    refine runs_region ?_
    refine' rls (gn rfl) rfl (step_store1 rfl rfl rfl rfl F.one4 rfl rfl ?hl ?hc) ⟨?hb, trivial⟩ ?hk ?_
    case hb => repeat (first | exact uE | refine uN (by omega) ?_ | assumption | exact hd _ (by omega) | fail)
    case hl => first | exact Nat.le_of_ble_eq_true rfl | decide | (simp; done) | (simp; omega) | (first | (simp; done) | (simp; omega) | omega)
    case hc => first | (simp only [List.set_cons_succ, List.set_cons_zero]; rfl) | rfl
    case hk => omega
    refine runsL_nil ?_
    refine runs_ret ?_
    refine ⟨by first | exact .inr rfl | exact .inl rfl, fin_mkg (resc1 rfl (by repeat (first | exact uE | refine uN (by omega) ?_ | assumption | exact hd _ (by omega) | fail)) F.one4 rfl res0) ?_ ?_ ?_ ?_ ?_⟩
    · (repeat' (first | exact VLe.refl _ | exact VLe.own_sl _ _ _ | exact VLe.fl_sl _ _ | exact VLe.nil_sl _ | exact VLe.nil_fl _ | exact VLes.refl _ | exact .nil | refine VLe.tup ?_ | refine VLe.agg ?_ | refine .cons ?_ ?_ | (rw [Int.natCast_add]; exact VLe.refl _) | exact vle_int (by omega) | exact vle_bool (by first | rfl | assumption | (simp_all; done) | fail) | fail))
    · repeat (first | exact trivial | assumption | omega | (refine bdR_map (fun _ => ?_)) | (refine bdL_map (fun _ => ?_)) | refine ⟨?_, ?_⟩ | fail)
    · intro k_ hk_; exact ble (by repeat (first | exact rfl | refine uN (by omega) ?_ | assumption | fail))
    · intro p hp; cases hp
    · repeat (first | exact trivial | assumption | omega | (refine bdR_map (fun _ => ?_)) | (refine bdL_map (fun _ => ?_)) | refine ⟨?_, ?_⟩ | fail)
set_option maxRecDepth 100000 in
set_option maxHeartbeats 4000000 in
theorem ap_no_20 (oa ob : Op1) (ra rb : Rc1) (ta tb : Bool) (hqra : ra = ⟨0, oa.key, 536870912, 0, ByteArray.empty, false⟩) (hqta : ta = decide (oa.key = 5)) (hqrb : rb = ⟨0, ob.key, 536870912, 0, ByteArray.empty, false⟩) (hqtb : tb = decide (ob.key = 5)) (hoa : OkO oa) (hob : OkO ob) (hra : OkR ra) (hrb : OkR rb) (hka : 0 ≤ oa.key) (hkb : 0 ≤ ob.key) (hap : apF (allL oa ra ta) (allL ob rb tb) = false) : Does Try.prog 16 [.agg (opC oa), .agg (opC ob), .sc (.func (.func 20) #[] #[])] [] [] (.sc (.bool false)) := by
  refine does_mkr 40 Try.func16 rfl rfl rfl (fun n B bx hd hpre hup hvs hbx hgx hO => ?_)
  obtain ⟨i, x, hx, hbx_, hxlo⟩ := all_first hap
  obtain ⟨j, y, hy, hby_, hylo⟩ := all_first hbx_
  refine runs_seq ?_
  refine runs_region ?_
  refine rl1 (gn rfl) rfl rfl (step_box_agg (k := n + 0) rfl rfl) ⟨by repeat (first | exact uE | refine uN (by omega) ?_ | assumption | exact hd _ (by omega) | fail), trivial⟩ (by omega) ?_
  refine rl1 (gn rfl) rfl rfl (step_box_agg (k := n + 1) rfl rfl) ⟨by repeat (first | exact uE | refine uN (by omega) ?_ | assumption | exact hd _ (by omega) | fail), trivial⟩ (by omega) ?_
  refine rl1 (gn rfl) rfl rfl (step_box_one (k := n + 2) rfl rfl rfl rfl) ⟨by repeat (first | exact uE | refine uN (by omega) ?_ | assumption | exact hd _ (by omega) | fail), trivial⟩ (by omega) ?_
  refine rl1 (gn rfl) rfl rfl (step_allocc (k := n + 3) (zs := [.bool false]) (cs := [.sc (.bool false)]) rfl F.zero4 (by first | rfl | simp) (by first | rfl | decide | simp) (by first | rfl | simp)) ⟨by repeat (first | exact uE | refine uN (by omega) ?_ | assumption | exact hd _ (by omega) | fail), trivial⟩ (by omega) ?_
  refine runsL_nil ?_
  refine runs_seq ?_
  refine runs_seq ?_
  refine runs_region ?_
  refine' rl0 (gn rfl) rfl rfl (step_load_all rfl rfl F.agg27 ?hl) ⟨?hb, trivial⟩ ?_
  case hb => repeat (first | exact uE | refine uN (by omega) ?_ | assumption | exact hd _ (by omega) | fail)
  case hl => first | rfl | (simp; done) | (first | (simp; done) | (simp; omega) | omega)
  refine' rl0 (gn rfl) rfl rfl (step_load_one rfl (ev_mk rfl) F.one32 ?hv) ⟨?hb, trivial⟩ ?_
  case hb => repeat (first | exact uE | refine uN (by omega) ?_ | assumption | exact hd _ (by omega) | fail)
  case hv => rfl
  refine rl2 (gn rfl) rfl rfl (step_callc rfl Try.func9 rfl rfl rfl (nall_20 oa (k2 := (n + 4)) (kf := (n + 5)) (by omega)) (by repeat (first | exact .nil | refine .cons ?_ ?_ | exact VLe.refl _ | exact VLe.own_sl _ _ _ | exact VLe.fl_sl _ _ | exact VLe.nil_sl _ | exact VLe.nil_fl _ | refine VLe.agg ?_))) ⟨by repeat (first | exact uE | refine uN (by omega) ?_ | assumption | exact hd _ (by omega) | fail), by repeat (first | exact uE | refine uN (by omega) ?_ | assumption | exact hd _ (by omega) | fail), trivial⟩ (by omega) (by omega) ?_
  refine runsL_nil ?_
  refine runs_block ?_
  refine runs_rangeL (f := 24) (caps := [.ref (n + 4) 0, .ref (n + 5) 0]) (xs := (allL oa ra ta).map enW) (Dl := [(n + 3, fun i60 => .cells [.sc (.bool false)])]) (El := [(n + 4, .cells (opC oa), fun m_ b_ => .cells (opC oa)), (n + 5, .cells [.sc (.func (.func 20) #[] #[])], fun m_ b_ => .cells [.sc (.func (.func 20) #[] #[])])]) (kl := n + 6) (m := i + 1) (brk := true) (ex := .ret) hO rfl (.inl rfl) Try.func24 rfl rfl (all_20 oa ra ta hqra hqta (by omega) hoa hra) trivial (by repeat (first | exact uE | refine uN (by omega) ?_ | assumption | exact hd _ (by omega) | fail)) (by omega) (by have := (List.getElem?_eq_some_iff.1 hx).1; simp; omega) (fun _ => ⟨by omega, _, rfl⟩) (fun h_ => nomatch h_) (fun v_ hv_ => by obtain ⟨_, _, rfl⟩ := List.mem_map.1 hv_; rfl) rfl ⟨trivial, trivial⟩ ⟨⟨by dsimp only; omega, by dsimp only; omega, ⟨by dsimp only; omega, by dsimp only; omega, trivial⟩, by dsimp only; (first | ((repeat (first | exact uE | assumption | refine uN (by omega) ?_ | fail)); done) | (refine Eq.trans (b := .cells [.sc (.bool false)]) (by repeat (first | exact uE | assumption | refine uN (by omega) ?_ | fail)) ?_; first | rfl | (simp; done)))⟩, trivial⟩ ⟨⟨by dsimp only; omega, by dsimp only; omega, by dsimp only; repeat (first | exact uE | refine uN (by omega) ?_ | assumption | exact hd _ (by omega) | fail)⟩, ⟨by dsimp only; omega, by dsimp only; omega, by dsimp only; repeat (first | exact uE | refine uN (by omega) ?_ | assumption | exact hd _ (by omega) | fail)⟩, trivial⟩ (fun i60 => ⟨bdb_cells (by repeat (first | exact trivial | assumption | omega | (refine bdR_map (fun _ => ?_)) | (refine bdL_map (fun _ => ?_)) | refine ⟨?_, ?_⟩ | fail)), trivial⟩) ⟨bdb_cells (by repeat (first | exact trivial | assumption | omega | (refine bdR_map (fun _ => ?_)) | (refine bdL_map (fun _ => ?_)) | refine ⟨?_, ?_⟩ | fail)), bdb_cells (by repeat (first | exact trivial | assumption | omega | (refine bdR_map (fun _ => ?_)) | (refine bdL_map (fun _ => ?_)) | refine ⟨?_, ?_⟩ | fail)), trivial⟩ ?_ ?_
  · intro i60 v60 hi60 hv60 B60 n60 lr60 bx60 hR60 hl60 hk60 ho60 he60 hn60 hd60 hD60 hfr60
    have hf60 : ∀ k_, k_ < _ → k_ ≠ n + 3 → k_ ≠ n + 4 → k_ ≠ n + 5 → k_ ≠ n + 6 → bx60 k_ = _ := fun k_ a_ e0_ e1_ e2_ e3_ => hfr60 k_ a_ ⟨e0_, e1_, e2_, trivial⟩ e3_
    have hb60_0 : bx60 (n + 3) = .cells [.sc (.bool false)] := hD60.1
    have hc60_0 : bx60 (n + 0) = .cells [.sc (.int .i64 oa.k), .sc (.int .u64 oa.key), .sc (.int .u32 oa.x), .sc (.int .u32 oa.y), .sc (.string oa.v), .sc (.int .u32 oa.a), .sc (.int .u32 oa.b), .sc (.int .u32 oa.c), .sc (.int .u32 oa.d), .sc (.int .i64 oa.n)] := (hf60 _ (by omega) (by omega) (by omega) (by omega) (by omega)).trans (by repeat (first | exact uE | refine uN (by omega) ?_ | assumption | exact hd _ (by omega) | fail))
    have hc60_1 : bx60 (n + 1) = .cells [.sc (.int .i64 ob.k), .sc (.int .u64 ob.key), .sc (.int .u32 ob.x), .sc (.int .u32 ob.y), .sc (.string ob.v), .sc (.int .u32 ob.a), .sc (.int .u32 ob.b), .sc (.int .u32 ob.c), .sc (.int .u32 ob.d), .sc (.int .i64 ob.n)] := (hf60 _ (by omega) (by omega) (by omega) (by omega) (by omega)).trans (by repeat (first | exact uE | refine uN (by omega) ?_ | assumption | exact hd _ (by omega) | fail))
    have hc60_2 : bx60 (n + 2) = .cells [.sc (.func (.func 20) #[] #[])] := (hf60 _ (by omega) (by omega) (by omega) (by omega) (by omega)).trans (by repeat (first | exact uE | refine uN (by omega) ?_ | assumption | exact hd _ (by omega) | fail))
    obtain ⟨t60, ht60, rfl⟩ := map_get hv60
    have hxa_ := al_ok hoa hra hka (List.mem_of_getElem? ht60)
    refine runs_keep (l' := [(12, .agg [.sc (.int .i64 t60.k), .sc (.int .u64 t60.n), .sc (.int .i64 t60.m)]), (4, .ref (n + 1) 0), (5, .ref (n + 2) 0), (6, .ref (n + 3) 0)]) ?_ ?_
    · (repeat' (first | exact trivial | refine ⟨⟨_, rfl, ?_⟩, ?_⟩ | fail)); all_goals (repeat' (first | exact VLe.refl _ | exact VLe.own_sl _ _ _ | exact VLe.fl_sl _ _ | exact VLe.nil_sl _ | exact VLe.nil_fl _ | exact VLes.refl _ | exact .nil | refine VLe.tup ?_ | refine VLe.agg ?_ | refine .cons ?_ ?_ | (rw [Int.natCast_add]; exact VLe.refl _) | exact vle_int (by omega) | exact vle_bool (by first | rfl | assumption | (simp_all; done) | fail) | fail))
    refine runs_bump 40 ?_
    refine runs_region ?_
    refine rl1 (gn rfl) rfl rfl (step_allocc (k := n60 + 0) (zs := [.int .i64 0, .int .u64 0, .int .i64 0]) (cs := [.sc (.int .i64 0), .sc (.int .u64 0), .sc (.int .i64 0)]) rfl F.zero41 (by first | rfl | simp) (by first | rfl | decide | simp) (by first | rfl | simp)) ⟨by repeat (first | exact uE | refine uN (by omega) ?_ | assumption | exact hd _ (by omega) | exact hd60 _ (by omega) | fail), trivial⟩ (by omega) ?_
    refine' rls (gn rfl) rfl (step_storeA rfl rfl rfl rfl F.agg41 ?hm ?hl) ⟨?hb, trivial⟩ ?hk ?_
    case hb => repeat (first | exact uE | refine uN (by omega) ?_ | assumption | exact hd _ (by omega) | exact hd60 _ (by omega) | fail)
    case hm => first | rfl | (simp; done) | (first | (simp; done) | (simp; omega) | omega)
    case hl => first | rfl | (simp; done) | (first | (simp; done) | (simp; omega) | omega)
    case hk => omega
    refine runsL_nil ?_
    refine ⟨rfl, by repeat (first | exact rfl | refine uN (by omega) ?_ | fail), fun r60 => ?_⟩
    show Runs _ _ _ _ ⟨mk _, _ + _, upd _ _ _⟩ _
    refine runs_block ?_
    refine runs_seq ?_
    refine runs_region ?_
    rcases Nat.lt_or_ge i60 i with hcs_ | hcs_
    · skip
      have hca_ := hxlo i60 t60 hcs_ ht60
      refine' rl0 (gn rfl) rfl rfl (step_load_all rfl rfl F.agg27 ?hl) ⟨?hb, trivial⟩ ?_
      case hb => repeat (first | exact uE | refine uN (by omega) ?_ | assumption | exact hd _ (by omega) | exact hd60 _ (by omega) | fail)
      case hl => first | rfl | (simp; done) | (first | (simp; done) | (simp; omega) | omega)
      refine' rl0 (gn rfl) rfl rfl (step_load_one rfl (ev_mk rfl) F.one32 ?hv) ⟨?hb, trivial⟩ ?_
      case hb => repeat (first | exact uE | refine uN (by omega) ?_ | assumption | exact hd _ (by omega) | exact hd60 _ (by omega) | fail)
      case hv => rfl
      refine rl2 (gn rfl) rfl rfl (step_callc rfl Try.func9 rfl rfl rfl (nall_20 ob (k2 := (n60 + 1)) (kf := (n60 + 2)) (by omega)) (by repeat (first | exact .nil | refine .cons ?_ ?_ | exact VLe.refl _ | exact VLe.own_sl _ _ _ | exact VLe.fl_sl _ _ | exact VLe.nil_sl _ | exact VLe.nil_fl _ | refine VLe.agg ?_))) ⟨by repeat (first | exact uE | refine uN (by omega) ?_ | assumption | exact hd _ (by omega) | exact hd60 _ (by omega) | fail), by repeat (first | exact uE | refine uN (by omega) ?_ | assumption | exact hd _ (by omega) | exact hd60 _ (by omega) | fail), trivial⟩ (by omega) (by omega) ?_
      refine runsL_nil ?_
      refine runs_block ?_
      refine runs_rangeLR (k0 := n + 6) (f := 24) (caps := [.ref (n60 + 1) 0, .ref (n60 + 2) 0]) (xs := (allL ob rb tb).map enW) (Dl := []) (El := [(n60 + 1, .cells (opC ob), fun m_ b_ => .cells (opC ob)), (n60 + 2, .cells [.sc (.func (.func 20) #[] #[])], fun m_ b_ => .cells [.sc (.func (.func 20) #[] #[])])]) (kl := n60 + 3) (m := (allL ob rb tb).length) (brk := false) (ex := .normal) hR60 hl60 (by rw [hk60]; obtain ⟨r_, h_⟩ := ho60; rw [h_]; trivial) (by repeat (first | exact uE | refine uN (by omega) ?_ | assumption | exact hd _ (by omega) | exact hd60 _ (by omega) | fail)) rfl (.inl rfl) Try.func24 rfl rfl (all_20 ob rb tb hqrb hqtb (by omega) hob hrb) trivial (by repeat (first | exact uE | refine uN (by omega) ?_ | assumption | exact hd _ (by omega) | exact hd60 _ (by omega) | fail)) (by omega) (by simp) (fun h_ => nomatch h_) (fun _ => ⟨by simp, rfl⟩) (fun v_ hv_ => by obtain ⟨_, _, rfl⟩ := List.mem_map.1 hv_; rfl) rfl trivial trivial ⟨⟨by dsimp only; omega, by dsimp only; omega, by dsimp only; repeat (first | exact uE | refine uN (by omega) ?_ | assumption | exact hd _ (by omega) | exact hd60 _ (by omega) | fail)⟩, ⟨by dsimp only; omega, by dsimp only; omega, by dsimp only; repeat (first | exact uE | refine uN (by omega) ?_ | assumption | exact hd _ (by omega) | exact hd60 _ (by omega) | fail)⟩, trivial⟩ (fun i61 => trivial) ⟨bdb_cells (by repeat (first | exact trivial | assumption | omega | (refine bdR_map (fun _ => ?_)) | (refine bdL_map (fun _ => ?_)) | refine ⟨?_, ?_⟩ | fail)), bdb_cells (by repeat (first | exact trivial | assumption | omega | (refine bdR_map (fun _ => ?_)) | (refine bdL_map (fun _ => ?_)) | refine ⟨?_, ?_⟩ | fail)), trivial⟩ ?_ ?_
      · intro i61 v61 hi61 hv61 B61 n61 lr61 bx61 hR61 hl61 hk61 ho61 he61 hn61 hd61 hD61 hfr61
        have hf61 : ∀ k_, k_ < _ → k_ ≠ n60 + 1 → k_ ≠ n60 + 2 → k_ ≠ n60 + 3 → bx61 k_ = _ := fun k_ a_ e0_ e1_ e2_ => hfr61 k_ a_ ⟨e0_, e1_, trivial⟩ e2_
        have hc61_0 : bx61 (n + 3) = .cells [.sc (.bool false)] := (hf61 _ (by omega) (by omega) (by omega) (by omega)).trans (by repeat (first | exact uE | refine uN (by omega) ?_ | assumption | exact hd _ (by omega) | exact hd60 _ (by omega) | fail))
        have hc61_1 : bx61 (n + 0) = .cells [.sc (.int .i64 oa.k), .sc (.int .u64 oa.key), .sc (.int .u32 oa.x), .sc (.int .u32 oa.y), .sc (.string oa.v), .sc (.int .u32 oa.a), .sc (.int .u32 oa.b), .sc (.int .u32 oa.c), .sc (.int .u32 oa.d), .sc (.int .i64 oa.n)] := (hf61 _ (by omega) (by omega) (by omega) (by omega)).trans (by repeat (first | exact uE | refine uN (by omega) ?_ | assumption | exact hd _ (by omega) | exact hd60 _ (by omega) | fail))
        have hc61_2 : bx61 (n + 1) = .cells [.sc (.int .i64 ob.k), .sc (.int .u64 ob.key), .sc (.int .u32 ob.x), .sc (.int .u32 ob.y), .sc (.string ob.v), .sc (.int .u32 ob.a), .sc (.int .u32 ob.b), .sc (.int .u32 ob.c), .sc (.int .u32 ob.d), .sc (.int .i64 ob.n)] := (hf61 _ (by omega) (by omega) (by omega) (by omega)).trans (by repeat (first | exact uE | refine uN (by omega) ?_ | assumption | exact hd _ (by omega) | exact hd60 _ (by omega) | fail))
        have hc61_3 : bx61 (n + 2) = .cells [.sc (.func (.func 20) #[] #[])] := (hf61 _ (by omega) (by omega) (by omega) (by omega)).trans (by repeat (first | exact uE | refine uN (by omega) ?_ | assumption | exact hd _ (by omega) | exact hd60 _ (by omega) | fail))
        have hc61_4 : bx61 (n60 + 0) = .cells [.sc (.int .i64 t60.k), .sc (.int .u64 t60.n), .sc (.int .i64 t60.m)] := (hf61 _ (by omega) (by omega) (by omega) (by omega)).trans (by repeat (first | exact uE | refine uN (by omega) ?_ | assumption | exact hd _ (by omega) | exact hd60 _ (by omega) | fail))
        obtain ⟨t61, ht61, rfl⟩ := map_get hv61
        have hxb_ := al_ok hob hrb hkb (List.mem_of_getElem? ht61)
        refine runs_keep (l' := [(16, .agg [.sc (.int .i64 t61.k), .sc (.int .u64 t61.n), .sc (.int .i64 t61.m)]), (6, .ref (n + 3) 0), (7, .ref (n60 + 0) 0)]) ?_ ?_
        · (repeat' (first | exact trivial | refine ⟨⟨_, rfl, ?_⟩, ?_⟩ | fail)); all_goals (repeat' (first | exact VLe.refl _ | exact VLe.own_sl _ _ _ | exact VLe.fl_sl _ _ | exact VLe.nil_sl _ | exact VLe.nil_fl _ | exact VLes.refl _ | exact .nil | refine VLe.tup ?_ | refine VLe.agg ?_ | refine .cons ?_ ?_ | (rw [Int.natCast_add]; exact VLe.refl _) | exact vle_int (by omega) | exact vle_bool (by first | rfl | assumption | (simp_all; done) | fail) | fail))
        refine runs_bump 40 ?_
        refine runs_region ?_
        refine rl1 (gn rfl) rfl rfl (step_allocc (k := n61 + 0) (zs := [.int .i64 0, .int .u64 0, .int .i64 0]) (cs := [.sc (.int .i64 0), .sc (.int .u64 0), .sc (.int .i64 0)]) rfl F.zero41 (by first | rfl | simp) (by first | rfl | decide | simp) (by first | rfl | simp)) ⟨by repeat (first | exact uE | refine uN (by omega) ?_ | assumption | exact hd _ (by omega) | exact hd60 _ (by omega) | exact hd61 _ (by omega) | fail), trivial⟩ (by omega) ?_
        refine' rls (gn rfl) rfl (step_storeA rfl rfl rfl rfl F.agg41 ?hm ?hl) ⟨?hb, trivial⟩ ?hk ?_
        case hb => repeat (first | exact uE | refine uN (by omega) ?_ | assumption | exact hd _ (by omega) | exact hd60 _ (by omega) | exact hd61 _ (by omega) | fail)
        case hm => first | rfl | (simp; done) | (first | (simp; done) | (simp; omega) | omega)
        case hl => first | rfl | (simp; done) | (first | (simp; done) | (simp; omega) | omega)
        case hk => omega
        refine runsL_nil ?_
        refine ⟨rfl, by repeat (first | exact rfl | refine uN (by omega) ?_ | fail), fun r61 => ?_⟩
        show Runs _ _ _ _ ⟨mk _, _ + _, upd _ _ _⟩ _
        refine runs_block ?_
        refine runs_seq ?_
        refine runs_region ?_
        refine rl0 (gn rfl) rfl rfl (step_fieldAddr (off := 0) rfl (ev_mk rfl) Try.underlying41 rfl F.sz39 rfl) trivial ?_
        refine' rl0 (gn rfl) rfl rfl (step_load_agg rfl (ev_mk rfl) F.agg39 ?hc ?hl) ⟨?hb, trivial⟩ ?_
        case hb => repeat (first | exact uE | refine uN (by omega) ?_ | assumption | exact hd _ (by omega) | exact hd60 _ (by omega) | exact hd61 _ (by omega) | fail)
        case hc => rfl
        case hl => first | rfl | (simp; done) | (first | (simp; done) | (simp; omega) | omega)
        refine rl0 (gn rfl) rfl rfl (step_fieldAddr (off := 0) rfl (ev_mk rfl) Try.underlying41 rfl F.sz39 rfl) trivial ?_
        refine' rl0 (gn rfl) rfl rfl (step_load_agg rfl (ev_mk rfl) F.agg39 ?hc ?hl) ⟨?hb, trivial⟩ ?_
        case hb => repeat (first | exact uE | refine uN (by omega) ?_ | assumption | exact hd _ (by omega) | exact hd60 _ (by omega) | exact hd61 _ (by omega) | fail)
        case hc => rfl
        case hl => first | rfl | (simp; done) | (first | (simp; done) | (simp; omega) | omega)
        refine rl0 (gn rfl) rfl rfl (step_eql39 rfl (ev_mk rfl) (ev_mk rfl)) trivial ?_
        refine rl0 (gn rfl) rfl rfl (step_mv rfl rfl) trivial ?_
        refine rl_bool (d := 22) rfl (fun h1 => ?_) (fun h1 => ?_)
        · skip
          refine rl0 (gy rfl rfl rfl rfl rfl rfl) rfl rfl (step_fieldAddr (off := 2) rfl (ev_mk rfl) Try.underlying41 rfl F.sz3 rfl) trivial ?_
          refine' rl0 (gy rfl rfl rfl rfl rfl rfl) rfl rfl (step_load_one rfl (ev_mk rfl) F.one3 ?hv) ⟨?hb, trivial⟩ ?_
          case hb => repeat (first | exact uE | refine uN (by omega) ?_ | assumption | exact hd _ (by omega) | exact hd60 _ (by omega) | exact hd61 _ (by omega) | fail)
          case hv => rfl
          refine rl0 (gy rfl rfl rfl rfl rfl rfl) rfl rfl (step_fieldAddr (off := 2) rfl (ev_mk rfl) Try.underlying41 rfl F.sz3 rfl) trivial ?_
          refine' rl0 (gy rfl rfl rfl rfl rfl rfl) rfl rfl (step_load_one rfl (ev_mk rfl) F.one3 ?hv) ⟨?hb, trivial⟩ ?_
          case hb => repeat (first | exact uE | refine uN (by omega) ?_ | assumption | exact hd _ (by omega) | exact hd60 _ (by omega) | exact hd61 _ (by omega) | fail)
          case hv => rfl
          refine rl0 (gy rfl rfl rfl rfl rfl rfl) rfl rfl (step_callc rfl Try.func35 rfl rfl rfl (tog_c hxa_.2.2 hxb_.2.2) (by repeat (first | exact .nil | refine .cons ?_ ?_ | exact VLe.refl _ | exact VLe.own_sl _ _ _ | exact VLe.fl_sl _ _ | exact VLe.nil_sl _ | exact VLe.nil_fl _ | refine VLe.agg ?_))) trivial ?_
          refine rl_know (d := 27) (c := true) rfl (bad_ne (all_at hca_ ht61) (rs_eq.1 (by assumption))) ?_
          refine rl0 (gy rfl rfl rfl rfl rfl rfl) rfl rfl (step_unOp (c := .bool false) rfl (ev_mk rfl) (fun _ => rfl)) trivial ?_
          refine rl0 (gn rfl) rfl rfl (step_pick rfl (ev_mk rfl) (ev_mk rfl)) trivial ?_
          refine runsL_nil ?_
          refine runs_cond false (ev_mk rfl) (fun h_ => nomatch h_) (fun _ => ?_)
          refine runs_skip ?_
          refine ⟨by exact (if_neg (fun h_ => nomatch h_.1)).symm, by repeat (first | exact uE | refine uN (by omega) ?_ | assumption | exact hd _ (by omega) | exact hd60 _ (by omega) | exact hd61 _ (by omega) | fail), fun k_ hk_ hl_ => ?_⟩
          simp only [dL, updL, List.map_cons, List.map_nil]; exact ble (by repeat (first | exact rfl | refine uN (by first | assumption | omega) ?_ | assumption | exact hf60 _ (by omega) (by first | assumption | omega) (by first | assumption | omega) (by first | assumption | omega) (by first | assumption | omega) | exact hf61 _ (by omega) (by first | assumption | omega) (by first | assumption | omega) (by first | assumption | omega) | fail))
        · skip
          refine rlk rfl rfl rfl rfl rfl (ngb rfl rfl) rfl rfl ?_
          refine rlk rfl rfl rfl rfl rfl (ngb rfl rfl) rfl rfl ?_
          refine rlk rfl rfl rfl rfl rfl (ngb rfl rfl) rfl rfl ?_
          refine rlk rfl rfl rfl rfl rfl (ngb rfl rfl) rfl rfl ?_
          refine rlk rfl rfl rfl rfl rfl (ngb rfl rfl) rfl rfl ?_
          refine rlk rfl rfl rfl rfl rfl (ngb rfl rfl) rfl rfl ?_
          refine rl0 (gn rfl) rfl rfl (step_pick rfl (ev_mk rfl) (ev_mk rfl)) trivial ?_
          refine runsL_nil ?_
          refine runs_cond false (ev_mk rfl) (fun h_ => nomatch h_) (fun _ => ?_)
          refine runs_skip ?_
          refine ⟨by exact (if_neg (fun h_ => nomatch h_.1)).symm, by repeat (first | exact uE | refine uN (by omega) ?_ | assumption | exact hd _ (by omega) | exact hd60 _ (by omega) | exact hd61 _ (by omega) | fail), fun k_ hk_ hl_ => ?_⟩
          simp only [dL, updL, List.map_cons, List.map_nil]; exact ble (by repeat (first | exact rfl | refine uN (by first | assumption | omega) ?_ | assumption | exact hf60 _ (by omega) (by first | assumption | omega) (by first | assumption | omega) (by first | assumption | omega) (by first | assumption | omega) | exact hf61 _ (by omega) (by first | assumption | omega) (by first | assumption | omega) (by first | assumption | omega) | fail))
      · intro bb61 b61 hb61
        simp only [dL, eM, updL, List.map_cons, List.map_nil] at hb61
        subst hb61
        refine ⟨by first | exact (if_pos ⟨by assumption, by omega⟩).symm | exact (if_pos ⟨rfl, by omega⟩).symm | exact (if_neg (fun h_ => by omega)).symm, by repeat (first | exact uE | refine uN (by omega) ?_ | assumption | exact hd _ (by omega) | exact hd60 _ (by omega) | fail), fun k_ hk_ hl_ => ?_⟩
        simp only [dL, updL, List.map_cons, List.map_nil]; by_cases e0_ : k_ = (n + 3); (focus subst e0_; refine bl_eq ?_; first | (refine' blec ?hb ?hl; (case hb => repeat (first | exact uE | assumption | refine uN (by omega) ?_ | fail)); (case hl => first | exact VLes.refl _ | ((repeat' (first | exact VLe.refl _ | exact VLe.own_sl _ _ _ | exact VLe.fl_sl _ _ | exact VLe.nil_sl _ | exact VLe.nil_fl _ | exact VLes.refl _ | exact .nil | refine VLe.tup ?_ | refine VLe.agg ?_ | refine .cons ?_ ?_ | (rw [Int.natCast_add]; exact VLe.refl _) | exact vle_int (by omega) | exact vle_bool (by first | rfl | assumption | (simp_all; done) | fail) | fail)); done))) | (refine ble ?_; (repeat (first | exact uE | assumption | refine uN (by omega) ?_ | fail)); done)); refine bl_ne e0_ ?_; exact ble (by repeat (first | exact rfl | refine uN (by first | assumption | omega) ?_ | assumption | exact hf60 _ (by omega) (by first | assumption | omega) (by first | assumption | omega) (by first | assumption | omega) (by first | assumption | omega) | fail))
    · skip
      have hei_ : i60 = i := by omega
      have htw_ : t60 = x := by rw [hei_] at ht60; exact Option.some.inj (ht60.symm.trans hx)
      refine' rl0 (gn rfl) rfl rfl (step_load_all rfl rfl F.agg27 ?hl) ⟨?hb, trivial⟩ ?_
      case hb => repeat (first | exact uE | refine uN (by omega) ?_ | assumption | exact hd _ (by omega) | exact hd60 _ (by omega) | fail)
      case hl => first | rfl | (simp; done) | (first | (simp; done) | (simp; omega) | omega)
      refine' rl0 (gn rfl) rfl rfl (step_load_one rfl (ev_mk rfl) F.one32 ?hv) ⟨?hb, trivial⟩ ?_
      case hb => repeat (first | exact uE | refine uN (by omega) ?_ | assumption | exact hd _ (by omega) | exact hd60 _ (by omega) | fail)
      case hv => rfl
      refine rl2 (gn rfl) rfl rfl (step_callc rfl Try.func9 rfl rfl rfl (nall_20 ob (k2 := (n60 + 1)) (kf := (n60 + 2)) (by omega)) (by repeat (first | exact .nil | refine .cons ?_ ?_ | exact VLe.refl _ | exact VLe.own_sl _ _ _ | exact VLe.fl_sl _ _ | exact VLe.nil_sl _ | exact VLe.nil_fl _ | refine VLe.agg ?_))) ⟨by repeat (first | exact uE | refine uN (by omega) ?_ | assumption | exact hd _ (by omega) | exact hd60 _ (by omega) | fail), by repeat (first | exact uE | refine uN (by omega) ?_ | assumption | exact hd _ (by omega) | exact hd60 _ (by omega) | fail), trivial⟩ (by omega) (by omega) ?_
      refine runsL_nil ?_
      refine runs_block ?_
      refine runs_rangeLR (k0 := n + 6) (f := 24) (caps := [.ref (n60 + 1) 0, .ref (n60 + 2) 0]) (xs := (allL ob rb tb).map enW) (Dl := [(n + 3, fun i61 => .cells [.sc (.bool false)])]) (El := [(n60 + 1, .cells (opC ob), fun m_ b_ => .cells (opC ob)), (n60 + 2, .cells [.sc (.func (.func 20) #[] #[])], fun m_ b_ => .cells [.sc (.func (.func 20) #[] #[])])]) (kl := n60 + 3) (m := j + 1) (brk := true) (ex := .ret) hR60 hl60 (by rw [hk60]; obtain ⟨r_, h_⟩ := ho60; rw [h_]; trivial) (by repeat (first | exact uE | refine uN (by omega) ?_ | assumption | exact hd _ (by omega) | exact hd60 _ (by omega) | fail)) rfl (.inl rfl) Try.func24 rfl rfl (all_20 ob rb tb hqrb hqtb (by omega) hob hrb) trivial (by repeat (first | exact uE | refine uN (by omega) ?_ | assumption | exact hd _ (by omega) | exact hd60 _ (by omega) | fail)) (by omega) (by have := (List.getElem?_eq_some_iff.1 hy).1; simp; omega) (fun _ => ⟨by omega, _, rfl⟩) (fun h_ => nomatch h_) (fun v_ hv_ => by obtain ⟨_, _, rfl⟩ := List.mem_map.1 hv_; rfl) rfl ⟨trivial, trivial⟩ ⟨⟨by dsimp only; omega, by dsimp only; omega, ⟨by dsimp only; omega, by dsimp only; omega, trivial⟩, by dsimp only; (first | ((repeat (first | exact uE | assumption | refine uN (by omega) ?_ | fail)); done) | (refine Eq.trans (b := .cells [.sc (.bool false)]) (by repeat (first | exact uE | assumption | refine uN (by omega) ?_ | fail)) ?_; first | rfl | (simp; done)))⟩, trivial⟩ ⟨⟨by dsimp only; omega, by dsimp only; omega, by dsimp only; repeat (first | exact uE | refine uN (by omega) ?_ | assumption | exact hd _ (by omega) | exact hd60 _ (by omega) | fail)⟩, ⟨by dsimp only; omega, by dsimp only; omega, by dsimp only; repeat (first | exact uE | refine uN (by omega) ?_ | assumption | exact hd _ (by omega) | exact hd60 _ (by omega) | fail)⟩, trivial⟩ (fun i61 => ⟨bdb_cells (by repeat (first | exact trivial | assumption | omega | (refine bdR_map (fun _ => ?_)) | (refine bdL_map (fun _ => ?_)) | refine ⟨?_, ?_⟩ | fail)), trivial⟩) ⟨bdb_cells (by repeat (first | exact trivial | assumption | omega | (refine bdR_map (fun _ => ?_)) | (refine bdL_map (fun _ => ?_)) | refine ⟨?_, ?_⟩ | fail)), bdb_cells (by repeat (first | exact trivial | assumption | omega | (refine bdR_map (fun _ => ?_)) | (refine bdL_map (fun _ => ?_)) | refine ⟨?_, ?_⟩ | fail)), trivial⟩ ?_ ?_
      · intro i61 v61 hi61 hv61 B61 n61 lr61 bx61 hR61 hl61 hk61 ho61 he61 hn61 hd61 hD61 hfr61
        have hf61 : ∀ k_, k_ < _ → k_ ≠ n + 3 → k_ ≠ n60 + 1 → k_ ≠ n60 + 2 → k_ ≠ n60 + 3 → bx61 k_ = _ := fun k_ a_ e0_ e1_ e2_ e3_ => hfr61 k_ a_ ⟨e0_, e1_, e2_, trivial⟩ e3_
        have hb61_0 : bx61 (n + 3) = .cells [.sc (.bool false)] := hD61.1
        have hc61_1 : bx61 (n + 0) = .cells [.sc (.int .i64 oa.k), .sc (.int .u64 oa.key), .sc (.int .u32 oa.x), .sc (.int .u32 oa.y), .sc (.string oa.v), .sc (.int .u32 oa.a), .sc (.int .u32 oa.b), .sc (.int .u32 oa.c), .sc (.int .u32 oa.d), .sc (.int .i64 oa.n)] := (hf61 _ (by omega) (by omega) (by omega) (by omega) (by omega)).trans (by repeat (first | exact uE | refine uN (by omega) ?_ | assumption | exact hd _ (by omega) | exact hd60 _ (by omega) | fail))
        have hc61_2 : bx61 (n + 1) = .cells [.sc (.int .i64 ob.k), .sc (.int .u64 ob.key), .sc (.int .u32 ob.x), .sc (.int .u32 ob.y), .sc (.string ob.v), .sc (.int .u32 ob.a), .sc (.int .u32 ob.b), .sc (.int .u32 ob.c), .sc (.int .u32 ob.d), .sc (.int .i64 ob.n)] := (hf61 _ (by omega) (by omega) (by omega) (by omega) (by omega)).trans (by repeat (first | exact uE | refine uN (by omega) ?_ | assumption | exact hd _ (by omega) | exact hd60 _ (by omega) | fail))
        have hc61_3 : bx61 (n + 2) = .cells [.sc (.func (.func 20) #[] #[])] := (hf61 _ (by omega) (by omega) (by omega) (by omega) (by omega)).trans (by repeat (first | exact uE | refine uN (by omega) ?_ | assumption | exact hd _ (by omega) | exact hd60 _ (by omega) | fail))
        have hc61_4 : bx61 (n60 + 0) = .cells [.sc (.int .i64 t60.k), .sc (.int .u64 t60.n), .sc (.int .i64 t60.m)] := (hf61 _ (by omega) (by omega) (by omega) (by omega) (by omega)).trans (by repeat (first | exact uE | refine uN (by omega) ?_ | assumption | exact hd _ (by omega) | exact hd60 _ (by omega) | fail))
        obtain ⟨t61, ht61, rfl⟩ := map_get hv61
        have hxb_ := al_ok hob hrb hkb (List.mem_of_getElem? ht61)
        refine runs_keep (l' := [(16, .agg [.sc (.int .i64 t61.k), .sc (.int .u64 t61.n), .sc (.int .i64 t61.m)]), (6, .ref (n + 3) 0), (7, .ref (n60 + 0) 0)]) ?_ ?_
        · (repeat' (first | exact trivial | refine ⟨⟨_, rfl, ?_⟩, ?_⟩ | fail)); all_goals (repeat' (first | exact VLe.refl _ | exact VLe.own_sl _ _ _ | exact VLe.fl_sl _ _ | exact VLe.nil_sl _ | exact VLe.nil_fl _ | exact VLes.refl _ | exact .nil | refine VLe.tup ?_ | refine VLe.agg ?_ | refine .cons ?_ ?_ | (rw [Int.natCast_add]; exact VLe.refl _) | exact vle_int (by omega) | exact vle_bool (by first | rfl | assumption | (simp_all; done) | fail) | fail))
        refine runs_bump 40 ?_
        refine runs_region ?_
        refine rl1 (gn rfl) rfl rfl (step_allocc (k := n61 + 0) (zs := [.int .i64 0, .int .u64 0, .int .i64 0]) (cs := [.sc (.int .i64 0), .sc (.int .u64 0), .sc (.int .i64 0)]) rfl F.zero41 (by first | rfl | simp) (by first | rfl | decide | simp) (by first | rfl | simp)) ⟨by repeat (first | exact uE | refine uN (by omega) ?_ | assumption | exact hd _ (by omega) | exact hd60 _ (by omega) | exact hd61 _ (by omega) | fail), trivial⟩ (by omega) ?_
        refine' rls (gn rfl) rfl (step_storeA rfl rfl rfl rfl F.agg41 ?hm ?hl) ⟨?hb, trivial⟩ ?hk ?_
        case hb => repeat (first | exact uE | refine uN (by omega) ?_ | assumption | exact hd _ (by omega) | exact hd60 _ (by omega) | exact hd61 _ (by omega) | fail)
        case hm => first | rfl | (simp; done) | (first | (simp; done) | (simp; omega) | omega)
        case hl => first | rfl | (simp; done) | (first | (simp; done) | (simp; omega) | omega)
        case hk => omega
        refine runsL_nil ?_
        refine ⟨rfl, by repeat (first | exact rfl | refine uN (by omega) ?_ | fail), fun r61 => ?_⟩
        show Runs _ _ _ _ ⟨mk _, _ + _, upd _ _ _⟩ _
        refine runs_block ?_
        refine runs_seq ?_
        refine runs_region ?_
        rcases Nat.lt_or_ge i61 j with hcs_ | hcs_
        · skip
          have hcb_ : (!badW t60 t61) = true := by rw [htw_]; exact hylo i61 t61 hcs_ ht61
          refine rl0 (gn rfl) rfl rfl (step_fieldAddr (off := 0) rfl (ev_mk rfl) Try.underlying41 rfl F.sz39 rfl) trivial ?_
          refine' rl0 (gn rfl) rfl rfl (step_load_agg rfl (ev_mk rfl) F.agg39 ?hc ?hl) ⟨?hb, trivial⟩ ?_
          case hb => repeat (first | exact uE | refine uN (by omega) ?_ | assumption | exact hd _ (by omega) | exact hd60 _ (by omega) | exact hd61 _ (by omega) | fail)
          case hc => rfl
          case hl => first | rfl | (simp; done) | (first | (simp; done) | (simp; omega) | omega)
          refine rl0 (gn rfl) rfl rfl (step_fieldAddr (off := 0) rfl (ev_mk rfl) Try.underlying41 rfl F.sz39 rfl) trivial ?_
          refine' rl0 (gn rfl) rfl rfl (step_load_agg rfl (ev_mk rfl) F.agg39 ?hc ?hl) ⟨?hb, trivial⟩ ?_
          case hb => repeat (first | exact uE | refine uN (by omega) ?_ | assumption | exact hd _ (by omega) | exact hd60 _ (by omega) | exact hd61 _ (by omega) | fail)
          case hc => rfl
          case hl => first | rfl | (simp; done) | (first | (simp; done) | (simp; omega) | omega)
          refine rl0 (gn rfl) rfl rfl (step_eql39 rfl (ev_mk rfl) (ev_mk rfl)) trivial ?_
          refine rl0 (gn rfl) rfl rfl (step_mv rfl rfl) trivial ?_
          refine rl_bool (d := 22) rfl (fun h1 => ?_) (fun h1 => ?_)
          · skip
            refine rl0 (gy rfl rfl rfl rfl rfl rfl) rfl rfl (step_fieldAddr (off := 2) rfl (ev_mk rfl) Try.underlying41 rfl F.sz3 rfl) trivial ?_
            refine' rl0 (gy rfl rfl rfl rfl rfl rfl) rfl rfl (step_load_one rfl (ev_mk rfl) F.one3 ?hv) ⟨?hb, trivial⟩ ?_
            case hb => repeat (first | exact uE | refine uN (by omega) ?_ | assumption | exact hd _ (by omega) | exact hd60 _ (by omega) | exact hd61 _ (by omega) | fail)
            case hv => rfl
            refine rl0 (gy rfl rfl rfl rfl rfl rfl) rfl rfl (step_fieldAddr (off := 2) rfl (ev_mk rfl) Try.underlying41 rfl F.sz3 rfl) trivial ?_
            refine' rl0 (gy rfl rfl rfl rfl rfl rfl) rfl rfl (step_load_one rfl (ev_mk rfl) F.one3 ?hv) ⟨?hb, trivial⟩ ?_
            case hb => repeat (first | exact uE | refine uN (by omega) ?_ | assumption | exact hd _ (by omega) | exact hd60 _ (by omega) | exact hd61 _ (by omega) | fail)
            case hv => rfl
            refine rl0 (gy rfl rfl rfl rfl rfl rfl) rfl rfl (step_callc rfl Try.func35 rfl rfl rfl (tog_c hxa_.2.2 hxb_.2.2) (by repeat (first | exact .nil | refine .cons ?_ ?_ | exact VLe.refl _ | exact VLe.own_sl _ _ _ | exact VLe.fl_sl _ _ | exact VLe.nil_sl _ | exact VLe.nil_fl _ | refine VLe.agg ?_))) trivial ?_
            refine rl_know (d := 27) (c := true) rfl (bad_ne hcb_ (rs_eq.1 (by assumption))) ?_
            refine rl0 (gy rfl rfl rfl rfl rfl rfl) rfl rfl (step_unOp (c := .bool false) rfl (ev_mk rfl) (fun _ => rfl)) trivial ?_
            refine rl0 (gn rfl) rfl rfl (step_pick rfl (ev_mk rfl) (ev_mk rfl)) trivial ?_
            refine runsL_nil ?_
            refine runs_cond false (ev_mk rfl) (fun h_ => nomatch h_) (fun _ => ?_)
            refine runs_skip ?_
            refine ⟨by first | exact (if_pos ⟨by assumption, by omega⟩).symm | exact (if_pos ⟨rfl, by omega⟩).symm | exact (if_neg (fun h_ => by omega)).symm, by repeat (first | exact uE | refine uN (by omega) ?_ | assumption | exact hd _ (by omega) | exact hd60 _ (by omega) | exact hd61 _ (by omega) | fail), fun k_ hk_ hl_ => ?_⟩
            simp only [dL, updL, List.map_cons, List.map_nil]; by_cases e0_ : k_ = (n + 3); (focus subst e0_; refine bl_eq ?_; first | (refine' blec ?hb ?hl; (case hb => repeat (first | exact uE | assumption | refine uN (by omega) ?_ | fail)); (case hl => first | exact VLes.refl _ | ((repeat' (first | exact VLe.refl _ | exact VLe.own_sl _ _ _ | exact VLe.fl_sl _ _ | exact VLe.nil_sl _ | exact VLe.nil_fl _ | exact VLes.refl _ | exact .nil | refine VLe.tup ?_ | refine VLe.agg ?_ | refine .cons ?_ ?_ | (rw [Int.natCast_add]; exact VLe.refl _) | exact vle_int (by omega) | exact vle_bool (by first | rfl | assumption | (simp_all; done) | fail) | fail)); done))) | (refine ble ?_; (repeat (first | exact uE | assumption | refine uN (by omega) ?_ | fail)); done)); refine bl_ne e0_ ?_; exact ble (by repeat (first | exact rfl | refine uN (by first | assumption | omega) ?_ | assumption | exact hf60 _ (by omega) (by first | assumption | omega) (by first | assumption | omega) (by first | assumption | omega) (by first | assumption | omega) | exact hf61 _ (by omega) (by first | assumption | omega) (by first | assumption | omega) (by first | assumption | omega) (by first | assumption | omega) | fail))
          · skip
            refine rlk rfl rfl rfl rfl rfl (ngb rfl rfl) rfl rfl ?_
            refine rlk rfl rfl rfl rfl rfl (ngb rfl rfl) rfl rfl ?_
            refine rlk rfl rfl rfl rfl rfl (ngb rfl rfl) rfl rfl ?_
            refine rlk rfl rfl rfl rfl rfl (ngb rfl rfl) rfl rfl ?_
            refine rlk rfl rfl rfl rfl rfl (ngb rfl rfl) rfl rfl ?_
            refine rlk rfl rfl rfl rfl rfl (ngb rfl rfl) rfl rfl ?_
            refine rl0 (gn rfl) rfl rfl (step_pick rfl (ev_mk rfl) (ev_mk rfl)) trivial ?_
            refine runsL_nil ?_
            refine runs_cond false (ev_mk rfl) (fun h_ => nomatch h_) (fun _ => ?_)
            refine runs_skip ?_
            refine ⟨by first | exact (if_pos ⟨by assumption, by omega⟩).symm | exact (if_pos ⟨rfl, by omega⟩).symm | exact (if_neg (fun h_ => by omega)).symm, by repeat (first | exact uE | refine uN (by omega) ?_ | assumption | exact hd _ (by omega) | exact hd60 _ (by omega) | exact hd61 _ (by omega) | fail), fun k_ hk_ hl_ => ?_⟩
            simp only [dL, updL, List.map_cons, List.map_nil]; by_cases e0_ : k_ = (n + 3); (focus subst e0_; refine bl_eq ?_; first | (refine' blec ?hb ?hl; (case hb => repeat (first | exact uE | assumption | refine uN (by omega) ?_ | fail)); (case hl => first | exact VLes.refl _ | ((repeat' (first | exact VLe.refl _ | exact VLe.own_sl _ _ _ | exact VLe.fl_sl _ _ | exact VLe.nil_sl _ | exact VLe.nil_fl _ | exact VLes.refl _ | exact .nil | refine VLe.tup ?_ | refine VLe.agg ?_ | refine .cons ?_ ?_ | (rw [Int.natCast_add]; exact VLe.refl _) | exact vle_int (by omega) | exact vle_bool (by first | rfl | assumption | (simp_all; done) | fail) | fail)); done))) | (refine ble ?_; (repeat (first | exact uE | assumption | refine uN (by omega) ?_ | fail)); done)); refine bl_ne e0_ ?_; exact ble (by repeat (first | exact rfl | refine uN (by first | assumption | omega) ?_ | assumption | exact hf60 _ (by omega) (by first | assumption | omega) (by first | assumption | omega) (by first | assumption | omega) (by first | assumption | omega) | exact hf61 _ (by omega) (by first | assumption | omega) (by first | assumption | omega) (by first | assumption | omega) (by first | assumption | omega) | fail))
        · skip
          have hej_ : i61 = j := by omega
          have htv_ : t61 = y := by rw [hej_] at ht61; exact Option.some.inj (ht61.symm.trans hy)
          have hcb_ : (!badW t60 t61) = false := by rw [htw_, htv_]; exact hby_
          refine rl0 (gn rfl) rfl rfl (step_fieldAddr (off := 0) rfl (ev_mk rfl) Try.underlying41 rfl F.sz39 rfl) trivial ?_
          refine' rl0 (gn rfl) rfl rfl (step_load_agg rfl (ev_mk rfl) F.agg39 ?hc ?hl) ⟨?hb, trivial⟩ ?_
          case hb => repeat (first | exact uE | refine uN (by omega) ?_ | assumption | exact hd _ (by omega) | exact hd60 _ (by omega) | exact hd61 _ (by omega) | fail)
          case hc => rfl
          case hl => first | rfl | (simp; done) | (first | (simp; done) | (simp; omega) | omega)
          refine rl0 (gn rfl) rfl rfl (step_fieldAddr (off := 0) rfl (ev_mk rfl) Try.underlying41 rfl F.sz39 rfl) trivial ?_
          refine' rl0 (gn rfl) rfl rfl (step_load_agg rfl (ev_mk rfl) F.agg39 ?hc ?hl) ⟨?hb, trivial⟩ ?_
          case hb => repeat (first | exact uE | refine uN (by omega) ?_ | assumption | exact hd _ (by omega) | exact hd60 _ (by omega) | exact hd61 _ (by omega) | fail)
          case hc => rfl
          case hl => first | rfl | (simp; done) | (first | (simp; done) | (simp; omega) | omega)
          refine rl0 (gn rfl) rfl rfl (step_eql39 rfl (ev_mk rfl) (ev_mk rfl)) trivial ?_
          refine rl_know (d := 21) (c := true) rfl (rs_eq.2 (bad_yes hcb_).1) ?_
          refine rl0 (gn rfl) rfl rfl (step_mv rfl rfl) trivial ?_
          refine rl0 (gy rfl rfl rfl rfl rfl rfl) rfl rfl (step_fieldAddr (off := 2) rfl (ev_mk rfl) Try.underlying41 rfl F.sz3 rfl) trivial ?_
          refine' rl0 (gy rfl rfl rfl rfl rfl rfl) rfl rfl (step_load_one rfl (ev_mk rfl) F.one3 ?hv) ⟨?hb, trivial⟩ ?_
          case hb => repeat (first | exact uE | refine uN (by omega) ?_ | assumption | exact hd _ (by omega) | exact hd60 _ (by omega) | exact hd61 _ (by omega) | fail)
          case hv => rfl
          refine rl0 (gy rfl rfl rfl rfl rfl rfl) rfl rfl (step_fieldAddr (off := 2) rfl (ev_mk rfl) Try.underlying41 rfl F.sz3 rfl) trivial ?_
          refine' rl0 (gy rfl rfl rfl rfl rfl rfl) rfl rfl (step_load_one rfl (ev_mk rfl) F.one3 ?hv) ⟨?hb, trivial⟩ ?_
          case hb => repeat (first | exact uE | refine uN (by omega) ?_ | assumption | exact hd _ (by omega) | exact hd60 _ (by omega) | exact hd61 _ (by omega) | fail)
          case hv => rfl
          refine rl0 (gy rfl rfl rfl rfl rfl rfl) rfl rfl (step_callc rfl Try.func35 rfl rfl rfl (tog_c hxa_.2.2 hxb_.2.2) (by repeat (first | exact .nil | refine .cons ?_ ?_ | exact VLe.refl _ | exact VLe.own_sl _ _ _ | exact VLe.fl_sl _ _ | exact VLe.nil_sl _ | exact VLe.nil_fl _ | refine VLe.agg ?_))) trivial ?_
          refine rl_know (d := 27) (c := false) rfl ((bad_yes hcb_).2) ?_
          refine rl0 (gy rfl rfl rfl rfl rfl rfl) rfl rfl (step_unOp (c := .bool true) rfl (ev_mk rfl) (fun _ => rfl)) trivial ?_
          refine rl0 (gn rfl) rfl rfl (step_pick rfl (ev_mk rfl) (ev_mk rfl)) trivial ?_
          refine runsL_nil ?_
          refine runs_cond true (ev_mk rfl) (fun _ => ?_) (fun h_ => nomatch h_)
          refine runs_seq ?_
          refine runs_region ?_
          refine' rls (gn rfl) rfl (step_store1 rfl rfl rfl rfl F.one4 rfl rfl ?hl ?hc) ⟨?hb, trivial⟩ ?hk ?_
          case hb => repeat (first | exact uE | refine uN (by omega) ?_ | assumption | exact hd _ (by omega) | exact hd60 _ (by omega) | exact hd61 _ (by omega) | fail)
          case hl => first | exact Nat.le_of_ble_eq_true rfl | decide | (simp; done) | (simp; omega) | (first | (simp; done) | (simp; omega) | omega)
          case hc => first | (simp only [List.set_cons_succ, List.set_cons_zero]; rfl) | rfl
          case hk => omega
          refine runsL_nil ?_
          refine runs_ret ?_
          refine ⟨by first | exact (if_pos ⟨by assumption, by omega⟩).symm | exact (if_pos ⟨rfl, by omega⟩).symm | exact (if_neg (fun h_ => by omega)).symm, by repeat (first | exact uE | refine uN (by omega) ?_ | assumption | exact hd _ (by omega) | exact hd60 _ (by omega) | exact hd61 _ (by omega) | fail), fun k_ hk_ hl_ => ?_⟩
          simp only [dL, updL, List.map_cons, List.map_nil]; by_cases e0_ : k_ = (n + 3); (focus subst e0_; refine bl_eq ?_; first | (refine' blec ?hb ?hl; (case hb => repeat (first | exact uE | assumption | refine uN (by omega) ?_ | fail)); (case hl => first | exact VLes.refl _ | ((repeat' (first | exact VLe.refl _ | exact VLe.own_sl _ _ _ | exact VLe.fl_sl _ _ | exact VLe.nil_sl _ | exact VLe.nil_fl _ | exact VLes.refl _ | exact .nil | refine VLe.tup ?_ | refine VLe.agg ?_ | refine .cons ?_ ?_ | (rw [Int.natCast_add]; exact VLe.refl _) | exact vle_int (by omega) | exact vle_bool (by first | rfl | assumption | (simp_all; done) | fail) | fail)); done))) | (refine ble ?_; (repeat (first | exact uE | assumption | refine uN (by omega) ?_ | fail)); done)); refine bl_ne e0_ ?_; exact ble (by repeat (first | exact rfl | refine uN (by first | assumption | omega) ?_ | assumption | exact hf60 _ (by omega) (by first | assumption | omega) (by first | assumption | omega) (by first | assumption | omega) (by first | assumption | omega) | exact hf61 _ (by omega) (by first | assumption | omega) (by first | assumption | omega) (by first | assumption | omega) (by first | assumption | omega) | fail))
      · intro bb61 b61 hb61
        simp only [dL, eM, updL, List.map_cons, List.map_nil] at hb61
        subst hb61
        refine ⟨by first | exact (if_pos ⟨by assumption, by omega⟩).symm | exact (if_pos ⟨rfl, by omega⟩).symm | exact (if_neg (fun h_ => by omega)).symm, by repeat (first | exact uE | refine uN (by omega) ?_ | assumption | exact hd _ (by omega) | exact hd60 _ (by omega) | fail), fun k_ hk_ hl_ => ?_⟩
        simp only [dL, updL, List.map_cons, List.map_nil]; by_cases e0_ : k_ = (n + 3); (focus subst e0_; refine bl_eq ?_; first | (refine' blec ?hb ?hl; (case hb => repeat (first | exact uE | assumption | refine uN (by omega) ?_ | fail)); (case hl => first | exact VLes.refl _ | ((repeat' (first | exact VLe.refl _ | exact VLe.own_sl _ _ _ | exact VLe.fl_sl _ _ | exact VLe.nil_sl _ | exact VLe.nil_fl _ | exact VLes.refl _ | exact .nil | refine VLe.tup ?_ | refine VLe.agg ?_ | refine .cons ?_ ?_ | (rw [Int.natCast_add]; exact VLe.refl _) | exact vle_int (by omega) | exact vle_bool (by first | rfl | assumption | (simp_all; done) | fail) | fail)); done))) | (refine ble ?_; (repeat (first | exact uE | assumption | refine uN (by omega) ?_ | fail)); done)); refine bl_ne e0_ ?_; exact ble (by repeat (first | exact rfl | refine uN (by first | assumption | omega) ?_ | assumption | exact hf60 _ (by omega) (by first | assumption | omega) (by first | assumption | omega) (by first | assumption | omega) (by first | assumption | omega) | fail))
  · intro bb60 b60 hb60
    simp only [dL, eM, updL, List.map_cons, List.map_nil] at hb60
    subst hb60
    refine ⟨by first | exact .inr rfl | exact .inl rfl, fin_mkg (resc1 rfl (by repeat (first | exact uE | refine uN (by omega) ?_ | assumption | exact hd _ (by omega) | fail)) F.one4 rfl res0) ?_ ?_ ?_ ?_ ?_⟩
    · (repeat' (first | exact VLe.refl _ | exact VLe.own_sl _ _ _ | exact VLe.fl_sl _ _ | exact VLe.nil_sl _ | exact VLe.nil_fl _ | exact VLes.refl _ | exact .nil | refine VLe.tup ?_ | refine VLe.agg ?_ | refine .cons ?_ ?_ | (rw [Int.natCast_add]; exact VLe.refl _) | exact vle_int (by omega) | exact vle_bool (by first | rfl | assumption | (simp_all; done) | fail) | fail))
    · repeat (first | exact trivial | assumption | omega | (refine bdR_map (fun _ => ?_)) | (refine bdL_map (fun _ => ?_)) | refine ⟨?_, ?_⟩ | fail)
    · intro k_ hk_; exact ble (by repeat (first | exact rfl | refine uN (by omega) ?_ | assumption | fail))
    · intro p hp; cases hp
    · repeat (first | exact trivial | assumption | omega | (refine bdR_map (fun _ => ?_)) | (refine bdL_map (fun _ => ?_)) | refine ⟨?_, ?_⟩ | fail)
end Go.Proofs.Ythpkhecialkmmaa

