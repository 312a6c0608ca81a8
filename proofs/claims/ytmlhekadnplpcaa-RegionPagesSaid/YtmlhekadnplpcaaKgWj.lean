/- Walks by the logic of values. -/
import Derived.Test.YtmlhekadnplpcaaKgVa
import Derived.Test.YtmlhekadnplpcaaKgVb
import Derived.Test.YtmlhekadnplpcaaKgVc
import Derived.Test.YtmlhekadnplpcaaKgVe
import Derived.Test.YtmlhekadnplpcaaKgVf
import Derived.Test.YtmlhekadnplpcaaKgVg
import Derived.Test.YtmlhekadnplpcaaKgVh
import Derived.Test.YtmlhekadnplpcaaKgVi
import Derived.Test.YtmlhekadnplpcaaKgVl
import Derived.Test.YtmlhekadnplpcaaKgWi
import Derived.Test.YtmlhekadnplpcaaKgVmT
import Derived.Test.YtmlhekadnplpcaaKgVmP
import Derived.Test.YtmlhekadnplpcaaKgVmV
import Derived.Test.YtmlhekadnplpcaaKgVa
namespace Go.Proofs.Ytmlhekadnplpcaa
open Go.Vm
set_option linter.unusedVariables false
set_option linter.unusedSimpArgs false
attribute [local irreducible] Go.Vm.beB
abbrev LL (n : Nat) (l : List Pt) : List Pt := adA n l l.length
def QQ (n : Nat) (l : List Pt) : List Im := putL (pgs n) (LL n l) n
theorem QQ_len (n : Nat) (l : List Pt) : (QQ n l).length = n := putL_len _ _ _
theorem LL_len {n : Nat} {l : List Pt} (hn : 1 ≤ n ∧ n ≤ 4) (hok : ∀ p ∈ l, okPt p) : (LL n l).length ≤ 8 * n := (adA_ok n l hok l.length (by omega)).2
theorem LL_ok {n : Nat} {l : List Pt} (hn : 1 ≤ n ∧ n ≤ 4) (hok : ∀ p ∈ l, okPt p) : ∀ p ∈ LL n l, okPt p := (adA_ok n l hok l.length (by omega)).1
theorem QQ_ok {n : Nat} {l : List Pt} (hn : 1 ≤ n ∧ n ≤ 4) (hok : ∀ p ∈ l, okPt p) : ∀ q ∈ QQ n l, Byts q.2 ∧ q.2.length = 224 := putL_byts hn (LL_len hn hok) (LL_ok hn hok) n
theorem QQ_get {n : Nat} {l : List Pt} (hn : 1 ≤ n ∧ n ≤ 4) (hok : ∀ p ∈ l, okPt p) : getG (lkP (QQ n l)) (lkO (QQ n l)) 7 20 [] [] = some (pgs n, LL n l) := pages_all hn (LL_len hn hok) (LL_ok hn hok)
theorem QQ_pF {n : Nat} {l : List Pt} (hn : 1 ≤ n ∧ n ≤ 4) (hok : ∀ p ∈ l, okPt p) (w_ : Int) : Byts (lkP (QQ n l) w_) ∧ (lkP (QQ n l) w_).length = 224 := ⟨lkP_byts (fun q hq => (QQ_ok hn hok q hq).1) w_, lkP_len (fun q hq => (QQ_ok hn hok q hq).2) w_⟩
theorem QQ_at {n : Nat} {l : List Pt} (hn : 1 ≤ n ∧ n ≤ 4) (hok : ∀ p ∈ l, okPt p) {u : Nat} (hu : (u : Int) < n) : at' (QQ n l) (u : Int) = imA (pgs n) (LL n l) u := by
  have := QQ_len n l
  rw [at_nat _ _ (by omega)]; simp [QQ, putL]
theorem QQ_1 {n : Nat} {l : List Pt} (hn : 1 ≤ n ∧ n ≤ 4) (hok : ∀ p ∈ l, okPt p) {u : Nat} (hu : (u : Int) < n) : ((imR (at' (QQ n l) (u : Int))).drop 0)[0]? = some (V.sc (.int .i64 (at' (pgs n) (u : Int)))) := by
  rw [QQ_at hn hok hu]; rfl
theorem QQ_2 {n : Nat} {l : List Pt} (hn : 1 ≤ n ∧ n ≤ 4) (hok : ∀ p ∈ l, okPt p) {u : Nat} (hu : (u : Int) < n) {nx : Int} (hx : nxA (pgs n) u = nx) : (imR (at' (QQ n l) (u : Int))).drop 1 = (padP (pgP nx (ptsA (LL n l) u) (ptsA (LL n l) u).length)).map bV := by
  rw [QQ_at hn hok hu, ← hx]; rfl
theorem put_q {np : Nat} {l : List Pt} (hn : 1 ≤ np ∧ np ≤ 4) (hok : ∀ p ∈ l, okPt p) (a b c d : Int) : Does Try.prog 25 [.agg (rgC a b c d (pgs np) (LL np l))] [] [] (.sl 225 ((QQ np l).map imR)) := by
  have h := put_c a b c d (pgs np) (LL np l) (by rw [pgs_len]; omega) (by have := LL_len hn hok; omega) (LL_ok hn hok)
  rw [pgs_len] at h
  exact h
theorem cut_c (l : List Pt) (u : Nat) : ((l.map ptC).take (min (8 * u + 8) l.length)).drop (min (8 * u) l.length) = (ptsA l u).map ptC := by
  rw [← List.map_take, ← List.map_drop]
  congr 1
  unfold ptsA
  rw [List.drop_take]
  rcases Nat.lt_or_ge l.length (8 * u) with h | h
  · rw [List.drop_eq_nil_of_le (by omega : l.length ≤ min (8 * u) l.length), List.drop_eq_nil_of_le (by omega : l.length ≤ 8 * u)]; simp
  · rw [show min (8 * u) l.length = 8 * u by omega, List.take_eq_take_iff, List.length_drop]; omega
theorem eqCs_u8' : ∀ (a : List Int), eqCs (a.map fun x => Value.int .u8 x) (a.map fun x => Value.int .u8 x) = true
  | [] => by simp [eqCs]
  | x :: a => by
    have ih := eqCs_u8' a
    simp only [List.map_cons, eqCs, Bool.and_eq_true, ih]
    simp [eqC]
theorem fits_u8' : ∀ (a : List Int) (n : Nat), a.length = n → fitsL (List.replicate n (CK.i .u8)) (a.map fun x => .int .u8 x) = true
  | [], 0, _ => rfl
  | x :: a, n + 1, h => by simp only [List.replicate_succ, List.map_cons, fitsL, CK.fits, fits_u8' a n (by simpa using h)]; rfl
theorem shape62' : shapeOf Try.prog 3 62 = some (List.replicate 224 (CK.i .u8)) := by kernel_rfl
theorem eqg62' : Try.prog.eqGuardType Try.prog.depth 62 = false := by kernel_rfl
theorem step_neq62 {o : Oper} {t : Nat → V} {x y : Operand} {p : List Int} {cs : List V} {ty2 : TypeId} (ho : o.op = .binOp .neq 62 x y ty2) (hx : ev t x = .agg cs) (hy : ev t y = .agg (p.map bV)) (he : cs = p.map bV) (hl : p.length = 224) : StepOK Try.prog o t [] [] (.sc (.bool false)) := by
  subst he
  have e : p.map bV = (p.map fun x => Value.int .u8 x).map V.sc := by rw [List.map_map]; rfl
  rw [e] at hx hy
  exact step_eq_agg (xs := p.map fun x => .int .u8 x) (ys := p.map fun x => .int .u8 x) ho hx hy shape62' (by omega) ⟨_, Try.underlying62, rfl⟩ eqg62' (fits_u8' _ _ hl) (fits_u8' _ _ hl) (.inr ⟨rfl, by rw [eqCs_u8' p]; rfl⟩)
theorem bx_refl (a b c d : Int) : eqCs (bxV a b c d) (bxV a b c d) = true := by simp [bxV, eqCs, eqC]
set_option maxRecDepth 100000 in
set_option maxHeartbeats 4000000 in
theorem at28 (w_ : Int) (kk : Nat) (Q : List Im) (hQ : ∀ q ∈ Q, q.2.length = 224) (hQl : Q.length ≤ 1000) : Does Try.prog 28 [.sc (.int .i64 w_), .ref kk 0] [(kk, .cells [.sl 225 (Q.map imR)])] [] (.tup [.agg ((lkP Q w_).map bV), .sc (.bool (lkO Q w_))]) := by
  refine does_mkg 40 Try.func28 rfl rfl rfl (fun n B bx hd hpre hup hvs hbx hgx => ?_)
  have hp0 := hpre.1
  have hk0 := lt_cells hd hp0
  refine runs_seq ?_
  refine runs_region ?_
  refine rl1 (gn rfl) rfl rfl (step_allocc (k := n + 0) (zs := (List.replicate 224 (.int .u8 0))) (cs := List.replicate 224 (.sc (.int .u8 0))) rfl F.zero62 (by first | rfl | simp) (by first | rfl | decide | simp) (by first | rfl | simp)) ⟨by repeat (first | exact uE | refine uN (by omega) ?_ | assumption | exact hd _ (by omega) | fail), trivial⟩ (by omega) ?_
  refine rl0 (gn rfl) rfl rfl (step_as rfl rfl) trivial ?_
  refine runsL_nil ?_
  refine runs_seq ?_
  refine runs_seq ?_
  refine runs_region ?_
  refine rl0 (gn rfl) rfl rfl (step_as rfl rfl) trivial ?_
  refine runsL_nil ?_
  refine runs_block ?_
  refine runs_loop (fun (ri_ : Nat) (st_ : Go.Vm.S) => ∃ (i : Nat) (m0 : Nat) (b0 : Nat → Box), (st_ = ⟨mk [(0, .sc (.int .i64 w_)), (1, .ref kk 0), (3, .ref (n + 0) 0), (4, .sc (.bool false)), (5, .sc (.int .i64 (i : Int)))], m0, b0⟩) ∧ (ri_ = 1 + (Q.length - i)) ∧ (n + 1 ≤ m0) ∧ (∀ k_, k_ < n → b0 k_ = bx k_) ∧ (b0 kk = .cells [.sl 225 (Q.map imR)]) ∧ (b0 (n + 0) = .cells (List.replicate 224 (.sc (.int .u8 0)))) ∧ (i ≤ Q.length) ∧ (∀ q ∈ Q.take i, q.1 ≠ w_)) (1 + (Q.length - 0)) ⟨_, sle ?_ (Nat.le_refl _), 0, _, _, rfl, rfl, ?_⟩ ?_
  · (repeat' (first | exact trivial | refine ⟨⟨_, rfl, ?_⟩, ?_⟩ | fail)); all_goals (repeat' (first | exact VLe.refl _ | exact VLe.own_sl _ _ _ | exact VLe.fl_sl _ _ | exact VLe.nil_sl _ | exact VLe.nil_fl _ | exact VLes.refl _ | exact .nil | refine VLe.tup ?_ | refine VLe.agg ?_ | refine .cons ?_ ?_ | (rw [Int.natCast_add]; exact VLe.refl _) | exact vle_int (by omega) | exact vle_bool (by first | rfl | assumption | (simp_all; done) | fail) | fail))
  · exact ⟨by omega, (fun k_ hk_ => by repeat (first | exact rfl | refine uN (by omega) ?_ | assumption | fail)), by first | ((repeat (first | exact uE | assumption | refine uN (by omega) ?_ | fail)); done) | exact tl_eq (by repeat (first | exact uE | assumption | refine uN (by omega) ?_ | fail)) (by first | rfl | (simp [bytesV, beB_len]; done) | (simp [bytesV, beB_len]; omega) | omega), by first | ((repeat (first | exact uE | assumption | refine uN (by omega) ?_ | fail)); done) | exact tl_eq (by repeat (first | exact uE | assumption | refine uN (by omega) ?_ | fail)) (by first | rfl | (simp [bytesV, beB_len]; done) | (simp [bytesV, beB_len]; omega) | omega), by omega, by simp⟩
  · rintro _ _ ⟨i, m0, b0, rfl, rfl, hm0, hf0, hB0_0, hB0_1, hF0_0, hF0_1⟩
    refine runs_know (fun hd0 => ?_)
    refine runs_bump 20 ?_
    simp only at hd0
    refine runs_seq ?_
    refine runs_seq ?_
    refine runs_region ?_
    refine rl0 (gn rfl) rfl rfl (step_mv rfl rfl) trivial ?_
    refine' rl0 (gn rfl) rfl rfl (step_load_one rfl (ev_mk rfl) F.one60 ?hv) ⟨?hb, trivial⟩ ?_
    case hb => repeat (first | exact uE | refine uN (by omega) ?_ | assumption | exact hd _ (by omega) | exact hd0 _ (by omega) | fail)
    case hv => rfl
    refine rl0 (gn rfl) rfl rfl (step_len (m := Q.length) rfl rfl (ev_mk rfl) (.inl ⟨⟨_, Try.underlying60⟩, .inl ⟨_, _, .inl rfl, List.length_map _⟩⟩)) trivial ?_
    refine rl_lss (gn rfl) rfl rfl rfl rfl rfl (fun h1 => ?_) (fun h1 => ?_)
    · skip
      refine runsL_nil ?_
      refine runs_cond true (ev_mk rfl) (fun _ => ?_) (fun h_ => nomatch h_)
      refine runs_skip ?_
      refine runs_seq ?_
      refine runs_block ?_
      refine runs_seq ?_
      refine runs_region ?_
      refine' rl0 (gn rfl) rfl rfl (step_load_one rfl (ev_mk rfl) F.one60 ?hv) ⟨?hb, trivial⟩ ?_
      case hb => repeat (first | exact uE | refine uN (by omega) ?_ | assumption | exact hd _ (by omega) | exact hd0 _ (by omega) | fail)
      case hv => rfl
      refine rl0 (gn rfl) rfl rfl (step_mv rfl rfl) trivial ?_
      refine' rl0 (gn rfl) rfl rfl (step_index rfl (ev_mk rfl) (.inl rfl) (ev_mk rfl) Try.underlying60 F.sz64 (by omega) ?hr) trivial ?_
      case hr => exact map_at _ _ _ (by omega) (by omega)
      refine rl0 (gn rfl) rfl rfl (step_fieldAddr_ro (off := 0) rfl (ev_mk rfl) Try.underlying64 rfl F.sz3 rfl rfl) trivial ?_
      refine rl0 (gn rfl) rfl rfl (step_load_ro (v := .sc (.int .i64 (at' Q (i : Int)).1)) rfl (ev_mk rfl) F.one3 rfl) trivial ?_
      refine rl0 (gn rfl) rfl rfl (step_mv rfl rfl) trivial ?_
      refine rl_eql (gn rfl) rfl rfl rfl rfl rfl (fun h2 => ?_) (fun h2 => ?_)
      · skip
        have hly_ := lk_yes hF0_1 (by omega) (by assumption)
        have hlp_ : lkP Q w_ = (at' Q (i : Int)).2 := by unfold lkP; rw [hly_]
        have hlo_ : true = lkO Q w_ := by unfold lkO; rw [hly_]; rfl
        have hql_ := hQ _ (List.mem_of_getElem? (imat (show (i : Int) < Q.length by omega)))
        refine runsL_nil ?_
        refine runs_cond true (ev_mk rfl) (fun _ => ?_) (fun h_ => nomatch h_)
        refine runs_seq ?_
        refine runs_region ?_
        refine' rl0 (gn rfl) rfl rfl (step_load_one rfl (ev_mk rfl) F.one60 ?hv) ⟨?hb, trivial⟩ ?_
        case hb => repeat (first | exact uE | refine uN (by omega) ?_ | assumption | exact hd _ (by omega) | exact hd0 _ (by omega) | fail)
        case hv => rfl
        refine rl0 (gn rfl) rfl rfl (step_mv rfl rfl) trivial ?_
        refine' rl0 (gn rfl) rfl rfl (step_index rfl (ev_mk rfl) (.inl rfl) (ev_mk rfl) Try.underlying60 F.sz64 (by omega) ?hr) trivial ?_
        case hr => exact map_at _ _ _ (by omega) (by omega)
        refine rl0 (gn rfl) rfl rfl (step_fieldAddr_ro (off := 1) rfl (ev_mk rfl) Try.underlying64 rfl F.sz62 rfl rfl) trivial ?_
        refine rl0 (gn rfl) rfl rfl (step_load_ro_all rfl rfl F.agg62 (by first | rfl | (simp; done) | (first | (simp; done) | (show ((at' Q (i : Int)).2.map bV).length = 224; rw [List.length_map]; exact hql_)))) trivial ?_
        refine' rls (gn rfl) rfl (step_storeA rfl rfl rfl rfl F.agg62 ?hm ?hl) ⟨?hb, trivial⟩ ?hk ?_
        case hb => repeat (first | exact uE | refine uN (by omega) ?_ | assumption | exact hd _ (by omega) | exact hd0 _ (by omega) | fail)
        case hm => first | rfl | (simp; done) | (first | (simp; done) | (show ((at' Q (i : Int)).2.map bV).length = 224; rw [List.length_map]; exact hql_))
        case hl => first | rfl | (simp; done) | (first | (simp; done) | (show ((at' Q (i : Int)).2.map bV).length = 224; rw [List.length_map]; exact hql_))
        case hk => omega
        refine rl0 (gn rfl) rfl rfl (step_as rfl rfl) trivial ?_
        refine runsL_nil ?_
        refine runs_ret ?_
        refine ⟨by first | exact .inr rfl | exact .inl rfl, fin_mkg (resc rfl (by repeat (first | exact uE | refine uN (by omega) ?_ | assumption | exact hd _ (by omega) | exact hd0 _ (by omega) | fail)) F.agg62 (by first | rfl | (simp; done) | (first | (simp; done) | (show ((at' Q (i : Int)).2.map bV).length = 224; rw [List.length_map]; exact hql_))) (rest rfl res0)) ?_ ?_ ?_ ?_ ?_⟩
        · (repeat' (first | exact VLe.refl _ | exact VLe.own_sl _ _ _ | exact VLe.fl_sl _ _ | exact VLe.nil_sl _ | exact VLe.nil_fl _ | exact VLes.refl _ | exact .nil | refine VLe.tup ?_ | refine VLe.agg ?_ | refine .cons ?_ ?_ | (rw [Int.natCast_add]; exact VLe.refl _) | exact vle_int (by omega) | exact vle_bool (by first | rfl | assumption | (simp_all; done) | fail) | ((rw [hlp_]; exact VLes.refl _)) | ((rw [hlp_, List.map_replicate]; exact VLes.refl _)) | (exact vle_bool (by assumption)) | fail))
        · repeat (first | exact trivial | assumption | omega | (refine bdR_map (fun _ => ?_)) | (refine bdL_map (fun _ => ?_)) | refine ⟨?_, ?_⟩ | fail)
        · intro k_ hk_; exact ble (by repeat (first | exact rfl | refine uN (by omega) ?_ | assumption | exact hf0 _ (by omega) | fail))
        · intro p hp; cases hp
        · repeat (first | exact trivial | assumption | omega | (refine bdR_map (fun _ => ?_)) | (refine bdL_map (fun _ => ?_)) | refine ⟨?_, ?_⟩ | fail)
      · skip
        have hno_ := lk_s hF0_1 (by omega) (by assumption)
        refine runsL_nil ?_
        refine runs_cond false (ev_mk rfl) (fun h_ => nomatch h_) (fun _ => ?_)
        refine runs_skip ?_
        refine runs_region ?_
        refine rl0 (gn rfl) rfl rfl (step_mv rfl rfl) trivial ?_
        refine rl0 (gn rfl) rfl rfl (step_add rfl (ev_mk rfl) (ev_mk rfl) (w64 (by omega))) trivial ?_
        refine rl0 (gn rfl) rfl rfl (step_as rfl rfl) trivial ?_
        refine runsL_nil ?_
        refine ⟨_, _, ?_, sle ?_ (Nat.le_refl _), (i + 1), _, _, rfl, rfl, by omega, (fun k_ hk_ => by repeat (first | exact hf0 k_ hk_ | refine uN (by first | assumption | omega) ?_ | fail)), by first | ((repeat (first | exact uE | assumption | refine uN (by omega) ?_ | fail)); done) | exact tl_eq (by repeat (first | exact uE | assumption | refine uN (by omega) ?_ | fail)) (by first | rfl | (simp [bytesV, beB_len]; done) | (simp [bytesV, beB_len]; omega) | omega), by first | ((repeat (first | exact uE | assumption | refine uN (by omega) ?_ | fail)); done) | exact tl_eq (by repeat (first | exact uE | assumption | refine uN (by omega) ?_ | fail)) (by first | rfl | (simp [bytesV, beB_len]; done) | (simp [bytesV, beB_len]; omega) | omega), by omega, hno_⟩
        · omega
        · (repeat' (first | exact trivial | refine ⟨⟨_, rfl, ?_⟩, ?_⟩ | fail)); all_goals (repeat' (first | exact VLe.refl _ | exact VLe.own_sl _ _ _ | exact VLe.fl_sl _ _ | exact VLe.nil_sl _ | exact VLe.nil_fl _ | exact VLes.refl _ | exact .nil | refine VLe.tup ?_ | refine VLe.agg ?_ | refine .cons ?_ ?_ | (rw [Int.natCast_add]; exact VLe.refl _) | exact vle_int (by omega) | exact vle_bool (by first | rfl | assumption | (simp_all; done) | fail) | fail))
    · skip
      obtain rfl : i = Q.length := by omega
      have hly_ := lk_no (Q := Q) (w := w_) (by simpa using hF0_1)
      have hlp_ : lkP Q w_ = List.replicate 224 0 := by unfold lkP; rw [hly_]
      have hlo_ : false = lkO Q w_ := by unfold lkO; rw [hly_]; rfl
      refine runsL_nil ?_
      refine runs_cond false (ev_mk rfl) (fun h_ => nomatch h_) (fun _ => ?_)
      refine runs_exit ?_
      refine runs_seq ?_
      refine runs_region ?_
      refine rl0 (gn rfl) rfl rfl (step_build_zero rfl rfl Try.underlying62 F.sz5 F.zero62 rfl) trivial ?_
      refine' rls (gn rfl) rfl (step_storeA rfl rfl rfl rfl F.agg62 ?hm ?hl) ⟨?hb, trivial⟩ ?hk ?_
      case hb => repeat (first | exact uE | refine uN (by omega) ?_ | assumption | exact hd _ (by omega) | exact hd0 _ (by omega) | fail)
      case hm => first | rfl | (simp; done) | (first | (simp; done) | (show ((at' Q (i : Int)).2.map bV).length = 224; rw [List.length_map]; exact hql_))
      case hl => first | rfl | (simp; done) | (first | (simp; done) | (show ((at' Q (i : Int)).2.map bV).length = 224; rw [List.length_map]; exact hql_))
      case hk => omega
      refine rl0 (gn rfl) rfl rfl (step_as rfl rfl) trivial ?_
      refine runsL_nil ?_
      refine runs_ret ?_
      refine ⟨by first | exact .inr rfl | exact .inl rfl, fin_mkg (resc rfl (by repeat (first | exact uE | refine uN (by omega) ?_ | assumption | exact hd _ (by omega) | exact hd0 _ (by omega) | fail)) F.agg62 (by first | rfl | (simp; done) | (first | (simp; done) | (show ((at' Q (i : Int)).2.map bV).length = 224; rw [List.length_map]; exact hql_))) (rest rfl res0)) ?_ ?_ ?_ ?_ ?_⟩
      · (repeat' (first | exact VLe.refl _ | exact VLe.own_sl _ _ _ | exact VLe.fl_sl _ _ | exact VLe.nil_sl _ | exact VLe.nil_fl _ | exact VLes.refl _ | exact .nil | refine VLe.tup ?_ | refine VLe.agg ?_ | refine .cons ?_ ?_ | (rw [Int.natCast_add]; exact VLe.refl _) | exact vle_int (by omega) | exact vle_bool (by first | rfl | assumption | (simp_all; done) | fail) | ((rw [hlp_]; exact VLes.refl _)) | ((rw [hlp_, List.map_replicate]; exact VLes.refl _)) | (exact vle_bool (by assumption)) | fail))
      · repeat (first | exact trivial | assumption | omega | (refine bdR_map (fun _ => ?_)) | (refine bdL_map (fun _ => ?_)) | refine ⟨?_, ?_⟩ | fail)
      · intro k_ hk_; exact ble (by repeat (first | exact rfl | refine uN (by omega) ?_ | assumption | exact hf0 _ (by omega) | fail))
      · intro p hp; cases hp
      · repeat (first | exact trivial | assumption | omega | (refine bdR_map (fun _ => ?_)) | (refine bdL_map (fun _ => ?_)) | refine ⟨?_, ?_⟩ | fail)
set_option maxRecDepth 100000 in
set_option maxHeartbeats 4000000 in
theorem rpg_n (a b c d w : Int) (np : Nat) (hwb : 0 ≤ w ∧ w < 256) (hnp : (np : Int) = 1 + w % 4) (l : List Pt) (hok : ∀ p ∈ l, okPt p) (hw : Does Try.prog 15 [] [] [] (.sc (.bool true))) (hr : riF a b c d = false) : Does Try.prog 5 [.agg (bxB a b c d), .sc (.int .u8 w), .sl 4 (l.map ptC)] [] [] (.sc (.bool true)) := by
  refine does_mkg 40 Try.func5 rfl rfl rfl (fun n B bx hd hpre hup hvs hbx hgx => ?_)
  refine runs_seq ?_
  refine runs_region ?_
  refine rl1 (gn rfl) rfl rfl (step_box_agg (k := n + 0) rfl rfl) ⟨by repeat (first | exact uE | refine uN (by omega) ?_ | assumption | exact hd _ (by omega) | fail), trivial⟩ (by omega) ?_
  refine rl0 (gn rfl) rfl rfl (step_as rfl rfl) trivial ?_
  refine runsL_nil ?_
  refine runs_seq ?_
  refine runs_seq ?_
  refine runs_region ?_
  refine' rl0 (gn rfl) rfl rfl (step_load_all rfl rfl F.agg23 ?hl) ⟨?hb, trivial⟩ ?_
  case hb => repeat (first | exact uE | refine uN (by omega) ?_ | assumption | exact hd _ (by omega) | fail)
  case hl => first | rfl | (simp; done) | (first | (simp; done) | (simp; omega) | omega)
  refine rl0 (gn rfl) rfl rfl (step_callc rfl Try.func8 rfl rfl rfl (right_c a b c d) (by repeat (first | exact .nil | refine .cons ?_ ?_ | exact VLe.refl _ | exact VLe.own_sl _ _ _ | exact VLe.fl_sl _ _ | exact VLe.nil_sl _ | exact VLe.nil_fl _ | refine VLe.agg ?_))) trivial ?_
  refine rl_know (d := 19) (c := false) rfl (hr) ?_
  refine rl0 (gn rfl) rfl rfl (step_unOp (c := .bool true) rfl (ev_mk rfl) (fun _ => rfl)) trivial ?_
  refine rl0 (gn rfl) rfl rfl (step_mv rfl rfl) trivial ?_
  refine rlk rfl rfl rfl rfl rfl (ngb rfl rfl) rfl rfl ?_
  refine rlk rfl rfl rfl rfl rfl (ngb rfl rfl) rfl rfl ?_
  refine rlk rfl rfl rfl rfl rfl (ngb rfl rfl) rfl rfl ?_
  refine rl0 (gn rfl) rfl rfl (step_pick rfl (ev_mk rfl) (ev_mk rfl)) trivial ?_
  refine runsL_nil ?_
  refine runs_cond true (ev_mk rfl) (fun _ => ?_) (fun h_ => nomatch h_)
  refine runs_seq ?_
  refine runs_region ?_
  refine rl0 (gn rfl) rfl rfl (step_callc rfl Try.func15 rfl rfl rfl (hw) (by repeat (first | exact .nil | refine .cons ?_ ?_ | exact VLe.refl _ | exact VLe.own_sl _ _ _ | exact VLe.fl_sl _ _ | exact VLe.nil_sl _ | exact VLe.nil_fl _ | refine VLe.agg ?_))) trivial ?_
  refine rl0 (gn rfl) rfl rfl (step_as rfl rfl) trivial ?_
  refine runsL_nil ?_
  refine runs_ret ?_
  refine ⟨by first | exact .inr rfl | exact .inl rfl, fin_mkg (rest rfl res0) ?_ ?_ ?_ ?_ ?_⟩
  · (repeat' (first | exact VLe.refl _ | exact VLe.own_sl _ _ _ | exact VLe.fl_sl _ _ | exact VLe.nil_sl _ | exact VLe.nil_fl _ | exact VLes.refl _ | exact .nil | refine VLe.tup ?_ | refine VLe.agg ?_ | refine .cons ?_ ?_ | (rw [Int.natCast_add]; exact VLe.refl _) | exact vle_int (by omega) | exact vle_bool (by first | rfl | assumption | (simp_all; done) | fail) | fail))
  · repeat (first | exact trivial | assumption | omega | (refine bdR_map (fun _ => ?_)) | (refine bdL_map (fun _ => ?_)) | refine ⟨?_, ?_⟩ | fail)
  · intro k_ hk_; exact ble (by repeat (first | exact rfl | refine uN (by omega) ?_ | assumption | fail))
  · intro p hp; cases hp
  · repeat (first | exact trivial | assumption | omega | (refine bdR_map (fun _ => ?_)) | (refine bdL_map (fun _ => ?_)) | refine ⟨?_, ?_⟩ | fail)
set_option maxRecDepth 100000 in
set_option maxHeartbeats 4000000 in
theorem rpg_l (a b c d w : Int) (np : Nat) (hwb : 0 ≤ w ∧ w < 256) (hnp : (np : Int) = 1 + w % 4) (l : List Pt) (hok : ∀ p ∈ l, okPt p) (hw : Does Try.prog 15 [] [] [] (.sc (.bool true))) (hr : riF a b c d = true) (hl : 100 < l.length) : Does Try.prog 5 [.agg (bxB a b c d), .sc (.int .u8 w), .sl 4 (l.map ptC)] [] [] (.sc (.bool true)) := by
  refine does_mkg 40 Try.func5 rfl rfl rfl (fun n B bx hd hpre hup hvs hbx hgx => ?_)
  refine runs_seq ?_
  refine runs_region ?_
  refine rl1 (gn rfl) rfl rfl (step_box_agg (k := n + 0) rfl rfl) ⟨by repeat (first | exact uE | refine uN (by omega) ?_ | assumption | exact hd _ (by omega) | fail), trivial⟩ (by omega) ?_
  refine rl0 (gn rfl) rfl rfl (step_as rfl rfl) trivial ?_
  refine runsL_nil ?_
  refine runs_seq ?_
  refine runs_seq ?_
  refine runs_region ?_
  refine' rl0 (gn rfl) rfl rfl (step_load_all rfl rfl F.agg23 ?hl) ⟨?hb, trivial⟩ ?_
  case hb => repeat (first | exact uE | refine uN (by omega) ?_ | assumption | exact hd _ (by omega) | fail)
  case hl => first | rfl | (simp; done) | (first | (simp; done) | (simp; omega) | omega)
  refine rl0 (gn rfl) rfl rfl (step_callc rfl Try.func8 rfl rfl rfl (right_c a b c d) (by repeat (first | exact .nil | refine .cons ?_ ?_ | exact VLe.refl _ | exact VLe.own_sl _ _ _ | exact VLe.fl_sl _ _ | exact VLe.nil_sl _ | exact VLe.nil_fl _ | refine VLe.agg ?_))) trivial ?_
  refine rl_know (d := 19) (c := true) rfl (hr) ?_
  refine rl0 (gn rfl) rfl rfl (step_unOp (c := .bool false) rfl (ev_mk rfl) (fun _ => rfl)) trivial ?_
  refine rl0 (gn rfl) rfl rfl (step_mv rfl rfl) trivial ?_
  refine rl0 (gy rfl rfl rfl rfl rfl rfl) rfl rfl (step_mv rfl rfl) trivial ?_
  refine rl0 (gy rfl rfl rfl rfl rfl rfl) rfl rfl (step_len (m := l.length) rfl rfl (ev_mk rfl) (.inl ⟨⟨_, Try.underlying40⟩, .inl ⟨_, _, .inl rfl, List.length_map _⟩⟩)) trivial ?_
  refine rl_gtr (gy rfl rfl rfl rfl rfl rfl) rfl rfl rfl rfl rfl (fun h1 => ?_) (fun h1 => ?_)
  rotate_left
  · exact False.elim (by omega)
  refine rl0 (gn rfl) rfl rfl (step_pick rfl (ev_mk rfl) (ev_mk rfl)) trivial ?_
  refine runsL_nil ?_
  refine runs_cond true (ev_mk rfl) (fun _ => ?_) (fun h_ => nomatch h_)
  refine runs_seq ?_
  refine runs_region ?_
  refine rl0 (gn rfl) rfl rfl (step_callc rfl Try.func15 rfl rfl rfl (hw) (by repeat (first | exact .nil | refine .cons ?_ ?_ | exact VLe.refl _ | exact VLe.own_sl _ _ _ | exact VLe.fl_sl _ _ | exact VLe.nil_sl _ | exact VLe.nil_fl _ | refine VLe.agg ?_))) trivial ?_
  refine rl0 (gn rfl) rfl rfl (step_as rfl rfl) trivial ?_
  refine runsL_nil ?_
  refine runs_ret ?_
  refine ⟨by first | exact .inr rfl | exact .inl rfl, fin_mkg (rest rfl res0) ?_ ?_ ?_ ?_ ?_⟩
  · (repeat' (first | exact VLe.refl _ | exact VLe.own_sl _ _ _ | exact VLe.fl_sl _ _ | exact VLe.nil_sl _ | exact VLe.nil_fl _ | exact VLes.refl _ | exact .nil | refine VLe.tup ?_ | refine VLe.agg ?_ | refine .cons ?_ ?_ | (rw [Int.natCast_add]; exact VLe.refl _) | exact vle_int (by omega) | exact vle_bool (by first | rfl | assumption | (simp_all; done) | fail) | fail))
  · repeat (first | exact trivial | assumption | omega | (refine bdR_map (fun _ => ?_)) | (refine bdL_map (fun _ => ?_)) | refine ⟨?_, ?_⟩ | fail)
  · intro k_ hk_; exact ble (by repeat (first | exact rfl | refine uN (by omega) ?_ | assumption | fail))
  · intro p hp; cases hp
  · repeat (first | exact trivial | assumption | omega | (refine bdR_map (fun _ => ?_)) | (refine bdL_map (fun _ => ?_)) | refine ⟨?_, ?_⟩ | fail)
set_option maxRecDepth 100000 in
set_option maxHeartbeats 4000000 in
theorem rpg_c (a b c d w : Int) (np : Nat) (hwb : 0 ≤ w ∧ w < 256) (hnp : (np : Int) = 1 + w % 4) (l : List Pt) (hok : ∀ p ∈ l, okPt p) (hw : Does Try.prog 15 [] [] [] (.sc (.bool true))) (hr : riF a b c d = true) (hl : l.length ≤ 100) : Does Try.prog 5 [.agg (bxB a b c d), .sc (.int .u8 w), .sl 4 (l.map ptC)] [] [] (.sc (.bool true)) := by
  refine does_mkg 40 Try.func5 rfl rfl rfl (fun n B bx hd hpre hup hvs hbx hgx => ?_)
  have hn4 : 1 ≤ np ∧ np ≤ 4 := by omega
  have hLl := LL_len hn4 hok
  have hpl := pgs_len np
  have hQn := QQ_len np l
  refine runs_seq ?_
  refine runs_region ?_
  refine rl1 (gn rfl) rfl rfl (step_box_agg (k := n + 0) rfl rfl) ⟨by repeat (first | exact uE | refine uN (by omega) ?_ | assumption | exact hd _ (by omega) | fail), trivial⟩ (by omega) ?_
  refine rl0 (gn rfl) rfl rfl (step_as rfl rfl) trivial ?_
  refine runsL_nil ?_
  refine runs_seq ?_
  refine runs_seq ?_
  refine runs_region ?_
  refine' rl0 (gn rfl) rfl rfl (step_load_all rfl rfl F.agg23 ?hl) ⟨?hb, trivial⟩ ?_
  case hb => repeat (first | exact uE | refine uN (by omega) ?_ | assumption | exact hd _ (by omega) | fail)
  case hl => first | rfl | (simp; done) | (first | (simp; done) | (show ((at' (QQ np l) (u : Int)).2.map bV).length = 224; rw [List.length_map]; exact hqu_))
  refine rl0 (gn rfl) rfl rfl (step_callc rfl Try.func8 rfl rfl rfl (right_c a b c d) (by repeat (first | exact .nil | refine .cons ?_ ?_ | exact VLe.refl _ | exact VLe.own_sl _ _ _ | exact VLe.fl_sl _ _ | exact VLe.nil_sl _ | exact VLe.nil_fl _ | refine VLe.agg ?_))) trivial ?_
  refine rl_know (d := 19) (c := true) rfl (hr) ?_
  refine rl0 (gn rfl) rfl rfl (step_unOp (c := .bool false) rfl (ev_mk rfl) (fun _ => rfl)) trivial ?_
  refine rl0 (gn rfl) rfl rfl (step_mv rfl rfl) trivial ?_
  refine rl0 (gy rfl rfl rfl rfl rfl rfl) rfl rfl (step_mv rfl rfl) trivial ?_
  refine rl0 (gy rfl rfl rfl rfl rfl rfl) rfl rfl (step_len (m := l.length) rfl rfl (ev_mk rfl) (.inl ⟨⟨_, Try.underlying40⟩, .inl ⟨_, _, .inl rfl, List.length_map _⟩⟩)) trivial ?_
  refine rl_gtr (gy rfl rfl rfl rfl rfl rfl) rfl rfl rfl rfl rfl (fun h1 => ?_) (fun h1 => ?_)
  · exact False.elim (by omega)
  refine rl0 (gn rfl) rfl rfl (step_pick rfl (ev_mk rfl) (ev_mk rfl)) trivial ?_
  refine runsL_nil ?_
  refine runs_cond false (ev_mk rfl) (fun h_ => nomatch h_) (fun _ => ?_)
  refine runs_skip ?_
  refine runs_seq ?_
  refine runs_region ?_
  refine' rl0 (gn rfl) rfl rfl (step_load_all rfl rfl F.agg23 ?hl) ⟨?hb, trivial⟩ ?_
  case hb => repeat (first | exact uE | refine uN (by omega) ?_ | assumption | exact hd _ (by omega) | fail)
  case hl => first | rfl | (simp; done) | (first | (simp; done) | (show ((at' (QQ np l) (u : Int)).2.map bV).length = 224; rw [List.length_map]; exact hqu_))
  refine rl0 (gn rfl) rfl rfl (step_build (ss := [4, 1, 1]) (zs := [.int .i64 0, .int .i64 0, .int .i64 0, .int .i64 0, .slice none 0 0, .slice none 0 0]) rfl Try.underlying44 (by kernel_rfl) F.zero44 rfl rfl rfl) trivial ?_
  refine rl1 (gn rfl) rfl rfl (step_allocc (k := n + 1) (zs := [.int .i64 0, .int .i64 0, .int .i64 0, .int .i64 0, .slice none 0 0, .slice none 0 0]) (cs := [.sc (.int .i64 0), .sc (.int .i64 0), .sc (.int .i64 0), .sc (.int .i64 0), .sc (.slice none 0 0), .sc (.slice none 0 0)]) rfl F.zero44 (by first | rfl | simp) (by first | rfl | decide | simp) (by first | rfl | simp)) ⟨by repeat (first | exact uE | refine uN (by omega) ?_ | assumption | exact hd _ (by omega) | fail), trivial⟩ (by omega) ?_
  refine' rls (gn rfl) rfl (step_storeA rfl rfl rfl rfl F.agg44 ?hm ?hl) ⟨?hb, trivial⟩ ?hk ?_
  case hb => repeat (first | exact uE | refine uN (by omega) ?_ | assumption | exact hd _ (by omega) | fail)
  case hm => first | rfl | (simp; done) | (first | (simp; done) | (show ((at' (QQ np l) (u : Int)).2.map bV).length = 224; rw [List.length_map]; exact hqu_))
  case hl => first | rfl | (simp; done) | (first | (simp; done) | (show ((at' (QQ np l) (u : Int)).2.map bV).length = 224; rw [List.length_map]; exact hqu_))
  case hk => omega
  refine runsL_nil ?_
  refine runs_seq ?_
  refine runs_seq ?_
  refine runs_region ?_
  refine rl0 (gn rfl) rfl rfl (step_as rfl rfl) trivial ?_
  refine runsL_nil ?_
  refine runs_block ?_
  refine runs_growb (k := n + 1) (kn := n + 2) (q := 4) (e := 1) (by repeat (first | exact uE | refine uN (by omega) ?_ | assumption | exact hd _ (by omega) | fail)) rfl (by repeat (first | exact uE | refine uN (by omega) ?_ | assumption | exact hd _ (by omega) | fail)) (by omega) (by omega) ?_
  have hs1_ : [] = ((pgs 0).map iR) := by rfl
  refine runs_loop (fun (ri_ : Nat) (st_ : Go.Vm.S) => ∃ (j : Nat) (m0 : Nat) (b0 : Nat → Box), (st_ = ⟨mk [(1, .sc (.int .u8 w)), (2, .sl 4 (l.map ptC)), (3, .ref (n + 0) 0), (6, .sc (.bool false)), (7, .ref (n + 1) 0), (8, .sc (.int .i64 (j : Int)))], m0, b0⟩) ∧ (ri_ = 1 + (np - j)) ∧ (n + 3 ≤ m0) ∧ (∀ k_, k_ < n → b0 k_ = bx k_) ∧ (b0 (n + 0) = .cells [.sc (.int .i64 a), .sc (.int .i64 b), .sc (.int .i64 c), .sc (.int .i64 d)]) ∧ (b0 (n + 1) = .cells [.sc (.int .i64 a), .sc (.int .i64 b), .sc (.int .i64 c), .sc (.int .i64 d), .own 1 ((pgs j).map iR) (n + 2), .sc (.slice none 0 0)]) ∧ (b0 (n + 2) = .tail ((pgs j).map iR).length) ∧ (j ≤ np)) (1 + (np - 0)) ⟨_, sle ?_ (Nat.le_refl _), 0, _, _, rfl, rfl, ?_⟩ ?_
  · (repeat' (first | exact trivial | refine ⟨⟨_, rfl, ?_⟩, ?_⟩ | fail)); all_goals (repeat' (first | exact VLe.refl _ | exact VLe.own_sl _ _ _ | exact VLe.fl_sl _ _ | exact VLe.nil_sl _ | exact VLe.nil_fl _ | exact VLes.refl _ | exact .nil | refine VLe.tup ?_ | refine VLe.agg ?_ | refine .cons ?_ ?_ | (rw [Int.natCast_add]; exact VLe.refl _) | exact vle_int (by omega) | exact vle_bool (by first | rfl | assumption | (simp_all; done) | fail) | (rw [← hs1_]; exact VLe.refl _) | (rw [hs1_]; exact VLe.refl _) | fail))
  · exact ⟨by omega, (fun k_ hk_ => by repeat (first | exact rfl | refine uN (by omega) ?_ | assumption | fail)), by first | ((repeat (first | exact uE | assumption | refine uN (by omega) ?_ | fail)); done) | exact tl_eq (by repeat (first | exact uE | assumption | refine uN (by omega) ?_ | fail)) (by first | rfl | (simp [bytesV, beB_len]; done) | (simp [bytesV, beB_len]; omega) | omega) | (rw [← hs1_]; (repeat (first | exact uE | assumption | refine uN (by omega) ?_ | fail)); done), by first | ((repeat (first | exact uE | assumption | refine uN (by omega) ?_ | fail)); done) | exact tl_eq (by repeat (first | exact uE | assumption | refine uN (by omega) ?_ | fail)) (by first | rfl | (simp [bytesV, beB_len]; done) | (simp [bytesV, beB_len]; omega) | omega) | (rw [← hs1_]; (repeat (first | exact uE | assumption | refine uN (by omega) ?_ | fail)); done), by first | ((repeat (first | exact uE | assumption | refine uN (by omega) ?_ | fail)); done) | exact tl_eq (by repeat (first | exact uE | assumption | refine uN (by omega) ?_ | fail)) (by first | rfl | (simp [bytesV, beB_len]; done) | (simp [bytesV, beB_len]; omega) | omega) | (rw [← hs1_]; (repeat (first | exact uE | assumption | refine uN (by omega) ?_ | fail)); done), by omega⟩
  · rintro _ _ ⟨j, m0, b0, rfl, rfl, hm0, hf0, hB0_0, hB0_1, hB0_2, hF0_0⟩
    refine runs_know (fun hd0 => ?_)
    refine runs_bump 20 ?_
    simp only at hd0
    have hpj_ := pgs_len j
    refine runs_seq ?_
    refine runs_seq ?_
    refine runs_region ?_
    refine rl0 (gn rfl) rfl rfl (step_mv rfl rfl) trivial ?_
    refine rl0 (gn rfl) rfl rfl (step_mv rfl rfl) trivial ?_
    refine rl0 (gn rfl) rfl rfl (step_conv_id rfl rfl Try.underlying5 Try.underlying3 (w64 (by omega))) trivial ?_
    refine rl0 (gn rfl) rfl rfl (step_rem rfl (ev_mk rfl) (ev_mk rfl) (by omega) (by omega)) trivial ?_
    refine rl_leq (gn rfl) rfl rfl rfl rfl rfl (fun h2 => ?_) (fun h2 => ?_)
    · skip
      refine runsL_nil ?_
      refine runs_cond true (ev_mk rfl) (fun _ => ?_) (fun h_ => nomatch h_)
      refine runs_skip ?_
      refine runs_seq ?_
      refine runs_block ?_
      refine runs_region ?_
      refine rl0 (gn rfl) rfl rfl (step_fieldAddr (off := 4) rfl (ev_mk rfl) Try.underlying44 rfl F.sz42 rfl) trivial ?_
      refine' rl0 (gn rfl) rfl rfl (step_load_one rfl (ev_mk rfl) F.one42 ?hv) ⟨?hb, trivial⟩ ?_
      case hb => repeat (first | exact uE | refine uN (by omega) ?_ | assumption | exact hd _ (by omega) | exact hd0 _ (by omega) | fail)
      case hv => rfl
      refine rl0 (gn rfl) rfl rfl (step_mv rfl rfl) trivial ?_
      refine rl0 (gn rfl) rfl rfl (step_mul rfl (ev_mk rfl) (ev_mk rfl) (w64 (by omega))) trivial ?_
      refine rl0 (gn rfl) rfl rfl (step_add rfl (ev_mk rfl) (ev_mk rfl) (w64 (by omega))) trivial ?_
      refine rl0 (gn rfl) rfl rfl (step_lit rfl Try.underlying42 F.sz3 F.zero3 (by first | rfl | simp) (by first | rfl | simp | decide) (by decide) rfl rfl (by first | (simp [V.cs, V.stor, oneV]; done) | (simp [V.cs, V.stor, oneV])) rfl) trivial ?_
      refine' rl1 (gn rfl) rfl rfl (step_append_own rfl rfl rfl Try.underlying42 ⟨_, Try.underlying42, fun k_ => by intro h_; cases h_⟩ F.el3 (ev_mk rfl) (ev_mk rfl) (gives_sl (.inr (.inl rfl))) ?hg) ⟨?hb, trivial⟩ (by omega) ?_
      case hb => repeat (first | exact uE | refine uN (by omega) ?_ | assumption | exact hd _ (by omega) | exact hd0 _ (by omega) | fail)
      case hg => first | (simp; omega) | (simp; done) | omega
      refine rl0 (gn rfl) rfl rfl (step_fieldAddr (off := 4) rfl (ev_mk rfl) Try.underlying44 rfl F.sz42 rfl) trivial ?_
      refine' rls (gn rfl) rfl (step_store1 rfl rfl rfl rfl F.one42 rfl rfl ?hl ?hc) ⟨?hb, trivial⟩ ?hk ?_
      case hb => repeat (first | exact uE | refine uN (by omega) ?_ | assumption | exact hd _ (by omega) | exact hd0 _ (by omega) | fail)
      case hl => first | exact Nat.le_of_ble_eq_true rfl | decide | (simp; done) | (simp; omega) | (first | (simp; done) | (show ((at' (QQ np l) (u : Int)).2.map bV).length = 224; rw [List.length_map]; exact hqu_))
      case hc => first | (simp only [List.set_cons_succ, List.set_cons_zero]; rfl) | rfl
      case hk => omega
      refine runsL_nil ?_
      refine runs_region ?_
      refine rl0 (gn rfl) rfl rfl (step_mv rfl rfl) trivial ?_
      refine rl0 (gn rfl) rfl rfl (step_add rfl (ev_mk rfl) (ev_mk rfl) (w64 (by omega))) trivial ?_
      refine rl0 (gn rfl) rfl rfl (step_as rfl rfl) trivial ?_
      refine runsL_nil ?_
      have hq1_ : ((pgs j).map iR) ++ [[V.sc (.int .i64 (20 + (2 * (j : Int))))]] = ((pgs (j + 1)).map iR) := by (rw [pgs_s])
      refine ⟨_, _, ?_, sle ?_ (Nat.le_refl _), (j + 1), _, _, rfl, rfl, by omega, (fun k_ hk_ => by repeat (first | exact hf0 k_ hk_ | refine uN (by first | assumption | omega) ?_ | fail)), by first | ((repeat (first | exact uE | assumption | refine uN (by omega) ?_ | fail)); done) | exact tl_eq (by repeat (first | exact uE | assumption | refine uN (by omega) ?_ | fail)) (by first | rfl | (simp [bytesV, beB_len]; done) | (simp [bytesV, beB_len]; omega) | omega) | (rw [← hq1_]; (repeat (first | exact uE | assumption | refine uN (by omega) ?_ | fail)); done), by first | ((repeat (first | exact uE | assumption | refine uN (by omega) ?_ | fail)); done) | exact tl_eq (by repeat (first | exact uE | assumption | refine uN (by omega) ?_ | fail)) (by first | rfl | (simp [bytesV, beB_len]; done) | (simp [bytesV, beB_len]; omega) | omega) | (rw [← hq1_]; (repeat (first | exact uE | assumption | refine uN (by omega) ?_ | fail)); done), by first | ((repeat (first | exact uE | assumption | refine uN (by omega) ?_ | fail)); done) | exact tl_eq (by repeat (first | exact uE | assumption | refine uN (by omega) ?_ | fail)) (by first | rfl | (simp [bytesV, beB_len]; done) | (simp [bytesV, beB_len]; omega) | omega) | (rw [← hq1_]; (repeat (first | exact uE | assumption | refine uN (by omega) ?_ | fail)); done), by omega⟩
      · omega
      · (repeat' (first | exact trivial | refine ⟨⟨_, rfl, ?_⟩, ?_⟩ | fail)); all_goals (repeat' (first | exact VLe.refl _ | exact VLe.own_sl _ _ _ | exact VLe.fl_sl _ _ | exact VLe.nil_sl _ | exact VLe.nil_fl _ | exact VLes.refl _ | exact .nil | refine VLe.tup ?_ | refine VLe.agg ?_ | refine .cons ?_ ?_ | (rw [Int.natCast_add]; exact VLe.refl _) | exact vle_int (by omega) | exact vle_bool (by first | rfl | assumption | (simp_all; done) | fail) | (rw [← hq1_]; exact VLe.refl _) | (rw [hq1_]; exact VLe.refl _) | fail))
    · skip
      obtain rfl : np = j := by omega
      refine runsL_nil ?_
      refine runs_cond false (ev_mk rfl) (fun h_ => nomatch h_) (fun _ => ?_)
      refine runs_exit ?_
      refine runs_seq ?_
      refine runs_seq ?_
      refine runs_region ?_
      refine rl0 (gn rfl) rfl rfl (step_as rfl rfl) trivial ?_
      refine runsL_nil ?_
      refine runs_block ?_
      refine runs_boxle (k := n + 1) (cs' := rgC a b c d (pgs np) []) (by repeat (first | exact uE | refine uN (by omega) ?_ | assumption | exact hd _ (by omega) | exact hd0 _ (by omega) | fail)) (by repeat (first | exact .nil | refine .cons ?_ ?_ | exact VLe.refl _ | exact VLe.nil_sl _ | exact VLe.own_sl _ _ _)) ?_
      have hs1_ : (([] : List Pt).map ptC) = ((adA np l 0).map ptC) := by (simp [adA]; done)
      refine runs_loop (fun (ri_ : Nat) (st_ : Go.Vm.S) => ∃ (i : Nat) (m1 : Nat) (b1 : Nat → Box), (st_ = ⟨mk [(2, .sl 4 (l.map ptC)), (3, .ref (n + 0) 0), (6, .sc (.bool false)), (7, .ref (n + 1) 0), (9, .sc (.int .i64 (i : Int)))], m1, b1⟩) ∧ (ri_ = 1 + (l.length - i)) ∧ (m0 + 0 ≤ m1) ∧ (∀ k_, k_ < n → b1 k_ = bx k_) ∧ (b1 (n + 0) = .cells [.sc (.int .i64 a), .sc (.int .i64 b), .sc (.int .i64 c), .sc (.int .i64 d)]) ∧ (b1 (n + 1) = .cells [.sc (.int .i64 a), .sc (.int .i64 b), .sc (.int .i64 c), .sc (.int .i64 d), .sl 1 ((pgs np).map iR), .sl 4 ((adA np l i).map ptC)]) ∧ (i ≤ l.length)) (1 + (l.length - 0)) ⟨_, sle ?_ (Nat.le_refl _), 0, _, _, rfl, rfl, ?_⟩ ?_
      · (repeat' (first | exact trivial | refine ⟨⟨_, rfl, ?_⟩, ?_⟩ | fail)); all_goals (repeat' (first | exact VLe.refl _ | exact VLe.own_sl _ _ _ | exact VLe.fl_sl _ _ | exact VLe.nil_sl _ | exact VLe.nil_fl _ | exact VLes.refl _ | exact .nil | refine VLe.tup ?_ | refine VLe.agg ?_ | refine .cons ?_ ?_ | (rw [Int.natCast_add]; exact VLe.refl _) | exact vle_int (by omega) | exact vle_bool (by first | rfl | assumption | (simp_all; done) | fail) | (rw [← hs1_]; exact VLe.refl _) | (rw [hs1_]; exact VLe.refl _) | fail))
      · exact ⟨by omega, (fun k_ hk_ => by repeat (first | exact rfl | refine uN (by omega) ?_ | assumption | exact hf0 _ (by omega) | fail)), by first | ((repeat (first | exact uE | assumption | refine uN (by omega) ?_ | fail)); done) | exact tl_eq (by repeat (first | exact uE | assumption | refine uN (by omega) ?_ | fail)) (by first | rfl | (simp [bytesV, beB_len]; done) | (simp [bytesV, beB_len]; omega) | omega) | (rw [← hs1_]; (repeat (first | exact uE | assumption | refine uN (by omega) ?_ | fail)); done), by first | ((repeat (first | exact uE | assumption | refine uN (by omega) ?_ | fail)); done) | exact tl_eq (by repeat (first | exact uE | assumption | refine uN (by omega) ?_ | fail)) (by first | rfl | (simp [bytesV, beB_len]; done) | (simp [bytesV, beB_len]; omega) | omega) | (rw [← hs1_]; (repeat (first | exact uE | assumption | refine uN (by omega) ?_ | fail)); done), by omega⟩
      · rintro _ _ ⟨i, m1, b1, rfl, rfl, hm1, hf1, hB1_0, hB1_1, hF1_0⟩
        refine runs_know (fun hd1 => ?_)
        refine runs_bump 20 ?_
        simp only at hd1
        refine runs_seq ?_
        refine runs_seq ?_
        refine runs_region ?_
        refine rl0 (gn rfl) rfl rfl (step_mv rfl rfl) trivial ?_
        refine rl0 (gn rfl) rfl rfl (step_mv rfl rfl) trivial ?_
        refine rl0 (gn rfl) rfl rfl (step_len (m := l.length) rfl rfl (ev_mk rfl) (.inl ⟨⟨_, Try.underlying40⟩, .inl ⟨_, _, .inl rfl, List.length_map _⟩⟩)) trivial ?_
        refine rl_lss (gn rfl) rfl rfl rfl rfl rfl (fun h3 => ?_) (fun h3 => ?_)
        · skip
          refine runsL_nil ?_
          refine runs_cond true (ev_mk rfl) (fun _ => ?_) (fun h_ => nomatch h_)
          refine runs_skip ?_
          refine runs_seq ?_
          refine runs_block ?_
          refine runs_seq ?_
          refine runs_draw (by kernel_rfl) (by kernel_rfl) (by kernel_rfl) ?_
          have had_ := (adA_ok np l hok i (by omega)).2
          refine' dl0 (gn rfl) rfl rfl (step_load_all rfl rfl F.agg44 ?hl) ⟨?hb, trivial⟩ ?_
          case hb => repeat (first | exact uE | refine uN (by omega) ?_ | assumption | exact hd _ (by omega) | exact hd0 _ (by omega) | exact hd1 _ (by omega) | fail)
          case hl => first | rfl | (simp; done) | (first | (simp; done) | (show ((at' (QQ np l) (u : Int)).2.map bV).length = 224; rw [List.length_map]; exact hqu_))
          refine dl0 (gn rfl) rfl rfl (step_mv rfl rfl) trivial ?_
          refine dl0 (gn rfl) rfl rfl (step_mv rfl rfl) trivial ?_
          refine' dl0 (gn rfl) rfl rfl (step_index rfl (ev_mk rfl) (.inl rfl) (ev_mk rfl) Try.underlying40 F.sz50 (by omega) ?hr) trivial ?_
          case hr => exact map_at _ _ _ (by omega) (by omega)
          refine dl0 (gn rfl) rfl rfl (step_load_ro_all rfl rfl F.agg50 (by first | rfl | (simp; done) | (first | (simp; done) | (show ((at' (QQ np l) (u : Int)).2.map bV).length = 224; rw [List.length_map]; exact hqu_)))) trivial ?_
          refine dl0 (gn rfl) rfl rfl (step_callc rfl Try.func21 rfl rfl rfl (add_c a b c d (pgs np) (adA np l i) (by omega) (by omega) (at' l (i : Int)) (kk := 0)) (by repeat (first | exact .nil | refine .cons ?_ ?_ | exact VLe.refl _ | exact VLe.own_sl _ _ _ | exact VLe.fl_sl _ _ | exact VLe.nil_sl _ | exact VLe.nil_fl _ | refine VLe.agg ?_))) trivial ?_
          refine dl0 (gn rfl) rfl rfl (step_mv rfl rfl) trivial ?_
          refine dl0 (gn rfl) rfl rfl (step_extract rfl (ev_mk rfl) rfl) trivial ?_
          refine dl0 (gn rfl) rfl rfl (step_extract rfl (ev_mk rfl) rfl) trivial ?_
          refine dl1 (gn rfl) rfl rfl (step_allocc (k := m1 + 0) (zs := [.int .i64 0, .int .i64 0, .int .i64 0, .int .i64 0, .slice none 0 0, .slice none 0 0]) (cs := [.sc (.int .i64 0), .sc (.int .i64 0), .sc (.int .i64 0), .sc (.int .i64 0), .sc (.slice none 0 0), .sc (.slice none 0 0)]) rfl F.zero44 (by first | rfl | simp) (by first | rfl | decide | simp) (by first | rfl | simp)) ⟨by repeat (first | exact uE | refine uN (by omega) ?_ | assumption | exact hd _ (by omega) | exact hd0 _ (by omega) | exact hd1 _ (by omega) | fail), trivial⟩ (by omega) ?_
          refine' dls (gn rfl) rfl (step_storeA rfl rfl rfl rfl F.agg44 ?hm ?hl) ⟨?hb, trivial⟩ ?hk ?_
          case hb => repeat (first | exact uE | refine uN (by omega) ?_ | assumption | exact hd _ (by omega) | exact hd0 _ (by omega) | exact hd1 _ (by omega) | fail)
          case hm => first | rfl | (simp; done) | (first | (simp; done) | (show ((at' (QQ np l) (u : Int)).2.map bV).length = 224; rw [List.length_map]; exact hqu_))
          case hl => first | rfl | (simp; done) | (first | (simp; done) | (show ((at' (QQ np l) (u : Int)).2.map bV).length = 224; rw [List.length_map]; exact hqu_))
          case hk => omega
          refine dl0 (gn rfl) rfl rfl (step_as rfl rfl) trivial ?_
          refine dlnil ?_ ?_
          · repeat' (first | exact trivial | exact .inr (ap0 _ _ _ _) | exact .inr (ap2 _ _ _ _) | exact .inr (ap3 _ _ _ _) | exact .inr ⟨by first | (simp; done) | (simp; omega), by first | (simp; done) | (simp; omega)⟩ | exact .inl (by kernel_rfl) | refine ⟨?_, ?_⟩ | fail)
          refine runs_region ?_
          refine' rl0 (gn rfl) rfl rfl (step_load_all rfl rfl F.agg44 ?hl) ⟨?hb, trivial⟩ ?_
          case hb => repeat (first | exact uE | refine uN (by omega) ?_ | assumption | exact hd _ (by omega) | exact hd0 _ (by omega) | exact hd1 _ (by omega) | fail)
          case hl => first | rfl | (simp; done) | (first | (simp; done) | (show ((at' (QQ np l) (u : Int)).2.map bV).length = 224; rw [List.length_map]; exact hqu_))
          refine' rls (gn rfl) rfl (step_storeA rfl rfl rfl rfl F.agg44 ?hm ?hl) ⟨?hb, trivial⟩ ?hk ?_
          case hb => repeat (first | exact uE | refine uN (by omega) ?_ | assumption | exact hd _ (by omega) | exact hd0 _ (by omega) | exact hd1 _ (by omega) | fail)
          case hm => first | rfl | (simp; done) | (first | (simp; done) | (show ((at' (QQ np l) (u : Int)).2.map bV).length = 224; rw [List.length_map]; exact hqu_))
          case hl => first | rfl | (simp; done) | (first | (simp; done) | (show ((at' (QQ np l) (u : Int)).2.map bV).length = 224; rw [List.length_map]; exact hqu_))
          case hk => omega
          refine runsL_nil ?_
          refine runs_region ?_
          refine rl0 (gn rfl) rfl rfl (step_mv rfl rfl) trivial ?_
          refine rl0 (gn rfl) rfl rfl (step_add rfl (ev_mk rfl) (ev_mk rfl) (w64 (by omega))) trivial ?_
          refine rl0 (gn rfl) rfl rfl (step_as rfl rfl) trivial ?_
          refine runsL_nil ?_
          have hq1_ : ((adL (pgs np).length (adA np l i) (at' l (i : Int))).map ptC) = ((adA np l (i + 1)).map ptC) := by (rw [adA_s (by omega), pgs_len])
          refine ⟨_, _, ?_, sle ?_ (Nat.le_refl _), (i + 1), _, _, rfl, rfl, by omega, (fun k_ hk_ => by repeat (first | exact hf1 k_ hk_ | exact hf0 k_ hk_ | refine uN (by first | assumption | omega) ?_ | fail)), by first | ((repeat (first | exact uE | assumption | refine uN (by omega) ?_ | fail)); done) | exact tl_eq (by repeat (first | exact uE | assumption | refine uN (by omega) ?_ | fail)) (by first | rfl | (simp [bytesV, beB_len]; done) | (simp [bytesV, beB_len]; omega) | omega) | (rw [← hq1_]; (repeat (first | exact uE | assumption | refine uN (by omega) ?_ | fail)); done), by first | ((repeat (first | exact uE | assumption | refine uN (by omega) ?_ | fail)); done) | exact tl_eq (by repeat (first | exact uE | assumption | refine uN (by omega) ?_ | fail)) (by first | rfl | (simp [bytesV, beB_len]; done) | (simp [bytesV, beB_len]; omega) | omega) | (rw [← hq1_]; (repeat (first | exact uE | assumption | refine uN (by omega) ?_ | fail)); done), by omega⟩
          · omega
          · (repeat' (first | exact trivial | refine ⟨⟨_, rfl, ?_⟩, ?_⟩ | fail)); all_goals (repeat' (first | exact VLe.refl _ | exact VLe.own_sl _ _ _ | exact VLe.fl_sl _ _ | exact VLe.nil_sl _ | exact VLe.nil_fl _ | exact VLes.refl _ | exact .nil | refine VLe.tup ?_ | refine VLe.agg ?_ | refine .cons ?_ ?_ | (rw [Int.natCast_add]; exact VLe.refl _) | exact vle_int (by omega) | exact vle_bool (by first | rfl | assumption | (simp_all; done) | fail) | (rw [← hq1_]; exact VLe.refl _) | (rw [hq1_]; exact VLe.refl _) | fail))
        · skip
          obtain rfl : i = l.length := by omega
          refine runsL_nil ?_
          refine runs_cond false (ev_mk rfl) (fun h_ => nomatch h_) (fun _ => ?_)
          refine runs_exit ?_
          refine runs_seq ?_
          refine runs_region ?_
          refine' rl0 (gn rfl) rfl rfl (step_load_all rfl rfl F.agg44 ?hl) ⟨?hb, trivial⟩ ?_
          case hb => repeat (first | exact uE | refine uN (by omega) ?_ | assumption | exact hd _ (by omega) | exact hd0 _ (by omega) | exact hd1 _ (by omega) | fail)
          case hl => first | rfl | (simp; done) | (first | (simp; done) | (show ((at' (QQ np l) (u : Int)).2.map bV).length = 224; rw [List.length_map]; exact hqu_))
          refine rl0 (gn rfl) rfl rfl (step_callc rfl Try.func25 rfl rfl rfl (put_q hn4 hok a b c d) (by repeat (first | exact .nil | refine .cons ?_ ?_ | exact VLe.refl _ | exact VLe.own_sl _ _ _ | exact VLe.fl_sl _ _ | exact VLe.nil_sl _ | exact VLe.nil_fl _ | refine VLe.agg ?_))) trivial ?_
          refine rl1 (gn rfl) rfl rfl (step_allocc (k := m1 + 0) (zs := [.slice none 0 0]) (cs := [.sc (.slice none 0 0)]) rfl F.zero60 (by first | rfl | simp) (by first | rfl | decide | simp) (by first | rfl | simp)) ⟨by repeat (first | exact uE | refine uN (by omega) ?_ | assumption | exact hd _ (by omega) | exact hd0 _ (by omega) | exact hd1 _ (by omega) | fail), trivial⟩ (by omega) ?_
          refine' rls (gn rfl) rfl (step_store1 rfl rfl rfl rfl F.one60 rfl rfl ?hl ?hc) ⟨?hb, trivial⟩ ?hk ?_
          case hb => repeat (first | exact uE | refine uN (by omega) ?_ | assumption | exact hd _ (by omega) | exact hd0 _ (by omega) | exact hd1 _ (by omega) | fail)
          case hl => first | exact Nat.le_of_ble_eq_true rfl | decide | (simp; done) | (simp; omega) | (first | (simp; done) | (show ((at' (QQ np l) (u : Int)).2.map bV).length = 224; rw [List.length_map]; exact hqu_))
          case hc => first | (simp only [List.set_cons_succ, List.set_cons_zero]; rfl) | rfl
          case hk => omega
          refine runsL_nil ?_
          refine runs_seq ?_
          refine runs_seq ?_
          refine runs_region ?_
          refine' rl0 (gn rfl) rfl rfl (step_load_one rfl (ev_mk rfl) F.one60 ?hv) ⟨?hb, trivial⟩ ?_
          case hb => repeat (first | exact uE | refine uN (by omega) ?_ | assumption | exact hd _ (by omega) | exact hd0 _ (by omega) | exact hd1 _ (by omega) | fail)
          case hv => rfl
          refine rl0 (gn rfl) rfl rfl (step_len (m := np) rfl rfl (ev_mk rfl) (.inl ⟨⟨_, Try.underlying60⟩, .inl ⟨_, _, .inl rfl, by rw [List.length_map, QQ_len]⟩⟩)) trivial ?_
          refine rl0 (gn rfl) rfl rfl (step_fieldAddr (off := 4) rfl (ev_mk rfl) Try.underlying44 rfl F.sz42 rfl) trivial ?_
          refine' rl0 (gn rfl) rfl rfl (step_load_one rfl (ev_mk rfl) F.one42 ?hv) ⟨?hb, trivial⟩ ?_
          case hb => repeat (first | exact uE | refine uN (by omega) ?_ | assumption | exact hd _ (by omega) | exact hd0 _ (by omega) | exact hd1 _ (by omega) | fail)
          case hv => rfl
          refine rl0 (gn rfl) rfl rfl (step_len (m := np) rfl rfl (ev_mk rfl) (.inl ⟨⟨_, Try.underlying42⟩, .inl ⟨_, _, .inl rfl, by rw [List.length_map, pgs_len]⟩⟩)) trivial ?_
          refine rl_neq (gn rfl) rfl rfl rfl rfl rfl (fun h4 => ?_) (fun h4 => ?_)
          · exact False.elim (by exact h4 rfl)
          refine runsL_nil ?_
          refine runs_cond false (ev_mk rfl) (fun h_ => nomatch h_) (fun _ => ?_)
          refine runs_skip ?_
          refine runs_seq ?_
          refine runs_seq ?_
          refine runs_region ?_
          refine rl0 (gn rfl) rfl rfl (step_as rfl rfl) trivial ?_
          refine runsL_nil ?_
          refine runs_block ?_
          refine runs_loop (fun (ri_ : Nat) (st_ : Go.Vm.S) => ∃ (u : Nat) (m2 : Nat) (b2 : Nat → Box), (st_ = ⟨mk [(3, .ref (n + 0) 0), (6, .sc (.bool false)), (7, .ref (n + 1) 0), (12, .ref (m1 + 0) 0), (13, .sc (.int .i64 (u : Int)))], m2, b2⟩) ∧ (ri_ = 1 + (np - u)) ∧ (m1 + 1 ≤ m2) ∧ (∀ k_, k_ < n → b2 k_ = bx k_) ∧ (b2 (n + 0) = .cells [.sc (.int .i64 a), .sc (.int .i64 b), .sc (.int .i64 c), .sc (.int .i64 d)]) ∧ (b2 (n + 1) = .cells [.sc (.int .i64 a), .sc (.int .i64 b), .sc (.int .i64 c), .sc (.int .i64 d), .sl 1 ((pgs np).map iR), .sl 4 ((adA np l l.length).map ptC)]) ∧ (b2 (m1 + 0) = .cells [.sl 225 ((QQ np l).map imR)]) ∧ (u ≤ np)) (1 + (np - 0)) ⟨_, sle ?_ (Nat.le_refl _), 0, _, _, rfl, rfl, ?_⟩ ?_
          · (repeat' (first | exact trivial | refine ⟨⟨_, rfl, ?_⟩, ?_⟩ | fail)); all_goals (repeat' (first | exact VLe.refl _ | exact VLe.own_sl _ _ _ | exact VLe.fl_sl _ _ | exact VLe.nil_sl _ | exact VLe.nil_fl _ | exact VLes.refl _ | exact .nil | refine VLe.tup ?_ | refine VLe.agg ?_ | refine .cons ?_ ?_ | (rw [Int.natCast_add]; exact VLe.refl _) | exact vle_int (by omega) | exact vle_bool (by first | rfl | assumption | (simp_all; done) | fail) | fail))
          · exact ⟨by omega, (fun k_ hk_ => by repeat (first | exact rfl | refine uN (by omega) ?_ | assumption | exact hf0 _ (by omega) | exact hf1 _ (by omega) | fail)), by first | ((repeat (first | exact uE | assumption | refine uN (by omega) ?_ | fail)); done) | exact tl_eq (by repeat (first | exact uE | assumption | refine uN (by omega) ?_ | fail)) (by first | rfl | (simp [bytesV, beB_len]; done) | (simp [bytesV, beB_len]; omega) | omega), by first | ((repeat (first | exact uE | assumption | refine uN (by omega) ?_ | fail)); done) | exact tl_eq (by repeat (first | exact uE | assumption | refine uN (by omega) ?_ | fail)) (by first | rfl | (simp [bytesV, beB_len]; done) | (simp [bytesV, beB_len]; omega) | omega), by first | ((repeat (first | exact uE | assumption | refine uN (by omega) ?_ | fail)); done) | exact tl_eq (by repeat (first | exact uE | assumption | refine uN (by omega) ?_ | fail)) (by first | rfl | (simp [bytesV, beB_len]; done) | (simp [bytesV, beB_len]; omega) | omega), by omega⟩
          · rintro _ _ ⟨u, m2, b2, rfl, rfl, hm2, hf2, hB2_0, hB2_1, hB2_2, hF2_0⟩
            refine runs_know (fun hd2 => ?_)
            refine runs_bump 20 ?_
            simp only at hd2
            refine runs_seq ?_
            refine runs_seq ?_
            refine runs_region ?_
            refine rl0 (gn rfl) rfl rfl (step_mv rfl rfl) trivial ?_
            refine' rl0 (gn rfl) rfl rfl (step_load_one rfl (ev_mk rfl) F.one60 ?hv) ⟨?hb, trivial⟩ ?_
            case hb => repeat (first | exact uE | refine uN (by omega) ?_ | assumption | exact hd _ (by omega) | exact hd0 _ (by omega) | exact hd1 _ (by omega) | exact hd2 _ (by omega) | fail)
            case hv => rfl
            refine rl0 (gn rfl) rfl rfl (step_len (m := np) rfl rfl (ev_mk rfl) (.inl ⟨⟨_, Try.underlying60⟩, .inl ⟨_, _, .inl rfl, by rw [List.length_map, QQ_len]⟩⟩)) trivial ?_
            refine rl_lss (gn rfl) rfl rfl rfl rfl rfl (fun h5 => ?_) (fun h5 => ?_)
            · skip
              refine runsL_nil ?_
              refine runs_cond true (ev_mk rfl) (fun _ => ?_) (fun h_ => nomatch h_)
              refine runs_skip ?_
              refine runs_seq ?_
              refine runs_block ?_
              refine runs_seq ?_
              refine runs_region ?_
              refine rl0 (gn rfl) rfl rfl (step_as rfl rfl) trivial ?_
              refine runsL_nil ?_
              refine runs_seq ?_
              refine runs_seq ?_
              refine runs_region ?_
              refine rl0 (gn rfl) rfl rfl (step_mv rfl rfl) trivial ?_
              refine rl0 (gn rfl) rfl rfl (step_add rfl (ev_mk rfl) (ev_mk rfl) (w64 (by omega))) trivial ?_
              refine' rl0 (gn rfl) rfl rfl (step_load_one rfl (ev_mk rfl) F.one60 ?hv) ⟨?hb, trivial⟩ ?_
              case hb => repeat (first | exact uE | refine uN (by omega) ?_ | assumption | exact hd _ (by omega) | exact hd0 _ (by omega) | exact hd1 _ (by omega) | exact hd2 _ (by omega) | fail)
              case hv => rfl
              refine rl0 (gn rfl) rfl rfl (step_len (m := np) rfl rfl (ev_mk rfl) (.inl ⟨⟨_, Try.underlying60⟩, .inl ⟨_, _, .inl rfl, by rw [List.length_map, QQ_len]⟩⟩)) trivial ?_
              refine rl_lss (gn rfl) rfl rfl rfl rfl rfl (fun h6 => ?_) (fun h6 => ?_)
              · skip
                have hnx_ := nxA_1 (g := pgs np) (i := u) (by omega)
                refine runsL_nil ?_
                refine runs_cond true (ev_mk rfl) (fun _ => ?_) (fun h_ => nomatch h_)
                refine runs_region ?_
                refine rl0 (gn rfl) rfl rfl (step_fieldAddr (off := 4) rfl (ev_mk rfl) Try.underlying44 rfl F.sz42 rfl) trivial ?_
                refine' rl0 (gn rfl) rfl rfl (step_load_one rfl (ev_mk rfl) F.one42 ?hv) ⟨?hb, trivial⟩ ?_
                case hb => repeat (first | exact uE | refine uN (by omega) ?_ | assumption | exact hd _ (by omega) | exact hd0 _ (by omega) | exact hd1 _ (by omega) | exact hd2 _ (by omega) | fail)
                case hv => rfl
                refine rl0 (gn rfl) rfl rfl (step_mv rfl rfl) trivial ?_
                refine rl0 (gn rfl) rfl rfl (step_add rfl (ev_mk rfl) (ev_mk rfl) (w64 (by omega))) trivial ?_
                refine' rl0 (gn rfl) rfl rfl (step_index rfl (ev_mk rfl) (.inl rfl) (ev_mk rfl) Try.underlying42 F.sz3 (by omega) ?hr) trivial ?_
                case hr => exact map_at _ _ _ (by omega) (by omega)
                refine rl0 (gn rfl) rfl rfl (step_load_ro rfl (ev_mk rfl) F.one3 rfl) trivial ?_
                refine rl0 (gn rfl) rfl rfl (step_as rfl rfl) trivial ?_
                refine runsL_nil ?_
                refine runs_seq ?_
                refine runs_region ?_
                have hll_ : (adA np l l.length).length = (LL np l).length := rfl
                have hpa_ := ptsA_len (LL np l) u
                refine rl0 (gn rfl) rfl rfl (step_fieldAddr (off := 5) rfl (ev_mk rfl) Try.underlying44 rfl F.sz40 rfl) trivial ?_
                refine' rl0 (gn rfl) rfl rfl (step_load_one rfl (ev_mk rfl) F.one40 ?hv) ⟨?hb, trivial⟩ ?_
                case hb => repeat (first | exact uE | refine uN (by omega) ?_ | assumption | exact hd _ (by omega) | exact hd0 _ (by omega) | exact hd1 _ (by omega) | exact hd2 _ (by omega) | fail)
                case hv => rfl
                refine rl0 (gn rfl) rfl rfl (step_mv rfl rfl) trivial ?_
                refine rl0 (gn rfl) rfl rfl (step_mul rfl (ev_mk rfl) (ev_mk rfl) (w64 (by omega))) trivial ?_
                refine rl0 (gn rfl) rfl rfl (step_fieldAddr (off := 5) rfl (ev_mk rfl) Try.underlying44 rfl F.sz40 rfl) trivial ?_
                refine' rl0 (gn rfl) rfl rfl (step_load_one rfl (ev_mk rfl) F.one40 ?hv) ⟨?hb, trivial⟩ ?_
                case hb => repeat (first | exact uE | refine uN (by omega) ?_ | assumption | exact hd _ (by omega) | exact hd0 _ (by omega) | exact hd1 _ (by omega) | exact hd2 _ (by omega) | fail)
                case hv => rfl
                refine rl0 (gn rfl) rfl rfl (step_len (m := (LL np l).length) rfl rfl (ev_mk rfl) (.inl ⟨⟨_, Try.underlying40⟩, .inl ⟨_, _, .inl rfl, List.length_map _⟩⟩)) trivial ?_
                refine rl0 (gn rfl) rfl rfl (step_minr (r := ((min (8 * u) (LL np l).length) : Nat)) rfl (ev_mk rfl) (ev_mk rfl) (by split <;> omega)) trivial ?_
                refine rl0 (gn rfl) rfl rfl (step_mv rfl rfl) trivial ?_
                refine rl0 (gn rfl) rfl rfl (step_mul rfl (ev_mk rfl) (ev_mk rfl) (w64 (by omega))) trivial ?_
                refine rl0 (gn rfl) rfl rfl (step_add rfl (ev_mk rfl) (ev_mk rfl) (w64 (by omega))) trivial ?_
                refine rl0 (gn rfl) rfl rfl (step_fieldAddr (off := 5) rfl (ev_mk rfl) Try.underlying44 rfl F.sz40 rfl) trivial ?_
                refine' rl0 (gn rfl) rfl rfl (step_load_one rfl (ev_mk rfl) F.one40 ?hv) ⟨?hb, trivial⟩ ?_
                case hb => repeat (first | exact uE | refine uN (by omega) ?_ | assumption | exact hd _ (by omega) | exact hd0 _ (by omega) | exact hd1 _ (by omega) | exact hd2 _ (by omega) | fail)
                case hv => rfl
                refine rl0 (gn rfl) rfl rfl (step_len (m := (LL np l).length) rfl rfl (ev_mk rfl) (.inl ⟨⟨_, Try.underlying40⟩, .inl ⟨_, _, .inl rfl, List.length_map _⟩⟩)) trivial ?_
                refine rl0 (gn rfl) rfl rfl (step_minr (r := ((min (8 * u + 8) (LL np l).length) : Nat)) rfl (ev_mk rfl) (ev_mk rfl) (by split <;> omega)) trivial ?_
                refine rl0 (gn rfl) rfl rfl (step_slice (ys := (ptsA (LL np l) u).map ptC) (l := (min (8 * u) (LL np l).length)) (h := (min (8 * u + 8) (LL np l).length)) rfl (ev_mk rfl) (.inl rfl) Try.underlying40 F.sz50 (bndLo_nat (a := (min (8 * u) (LL np l).length)) rfl (by first | omega | (split <;> omega) | (first | (simp; done) | (show ((at' (QQ np l) (u : Int)).2.map bV).length = 224; rw [List.length_map]; exact hqu_)))) (bndHi_nat (a := (min (8 * u + 8) (LL np l).length)) rfl (by first | omega | (split <;> omega) | (first | (simp; done) | (show ((at' (QQ np l) (u : Int)).2.map bV).length = 224; rw [List.length_map]; exact hqu_)))) (by first | omega | exact Nat.zero_le _ | (simp; omega) | (first | (simp; done) | (show ((at' (QQ np l) (u : Int)).2.map bV).length = 224; rw [List.length_map]; exact hqu_))) (by rw [List.length_map]; omega) (cut_c (LL np l) u)) trivial ?_
                refine rl0 (gn rfl) rfl rfl (step_as rfl rfl) trivial ?_
                refine runsL_nil ?_
                refine runs_seq ?_
                refine runs_draw (by kernel_rfl) (by kernel_rfl) (by kernel_rfl) ?_
                have hqu_ := (QQ_ok hn4 hok _ (List.mem_of_getElem? (imat (show (u : Int) < (QQ np l).length by omega)))).2
                refine' dl0 (gn rfl) rfl rfl (step_load_one rfl (ev_mk rfl) F.one60 ?hv) ⟨?hb, trivial⟩ ?_
                case hb => repeat (first | exact uE | refine uN (by omega) ?_ | assumption | exact hd _ (by omega) | exact hd0 _ (by omega) | exact hd1 _ (by omega) | exact hd2 _ (by omega) | fail)
                case hv => rfl
                refine dl0 (gn rfl) rfl rfl (step_mv rfl rfl) trivial ?_
                refine' dl0 (gn rfl) rfl rfl (step_index rfl (ev_mk rfl) (.inl rfl) (ev_mk rfl) Try.underlying60 F.sz64 (by omega) ?hr) trivial ?_
                case hr => exact map_at _ _ _ (by omega) (by omega)
                refine dl0 (gn rfl) rfl rfl (step_fieldAddr_ro (off := 0) rfl (ev_mk rfl) Try.underlying64 rfl F.sz3 rfl rfl) trivial ?_
                refine dl0 (gn rfl) rfl rfl (step_load_ro (v := .sc (.int .i64 (at' (pgs np) (u : Int)))) rfl (ev_mk rfl) F.one3 (QQ_1 hn4 hok (by omega))) trivial ?_
                refine dl0 (gn rfl) rfl rfl (step_fieldAddr (off := 4) rfl (ev_mk rfl) Try.underlying44 rfl F.sz42 rfl) trivial ?_
                refine' dl0 (gn rfl) rfl rfl (step_load_one rfl (ev_mk rfl) F.one42 ?hv) ⟨?hb, trivial⟩ ?_
                case hb => repeat (first | exact uE | refine uN (by omega) ?_ | assumption | exact hd _ (by omega) | exact hd0 _ (by omega) | exact hd1 _ (by omega) | exact hd2 _ (by omega) | fail)
                case hv => rfl
                refine dl0 (gn rfl) rfl rfl (step_mv rfl rfl) trivial ?_
                refine' dl0 (gn rfl) rfl rfl (step_index rfl (ev_mk rfl) (.inl rfl) (ev_mk rfl) Try.underlying42 F.sz3 (by omega) ?hr) trivial ?_
                case hr => exact map_at _ _ _ (by omega) (by omega)
                refine dl0 (gn rfl) rfl rfl (step_load_ro rfl (ev_mk rfl) F.one3 rfl) trivial ?_
                refine dl_neq (gn rfl) rfl rfl rfl rfl rfl (fun h7 => ?_) (fun h7 => ?_)
                · exact False.elim (by exact h7 rfl)
                refine dl0 (gn rfl) rfl rfl (step_mv rfl rfl) trivial ?_
                refine' dl0 (gy rfl rfl rfl rfl rfl rfl) rfl rfl (step_load_one rfl (ev_mk rfl) F.one60 ?hv) ⟨?hb, trivial⟩ ?_
                case hb => repeat (first | exact uE | refine uN (by omega) ?_ | assumption | exact hd _ (by omega) | exact hd0 _ (by omega) | exact hd1 _ (by omega) | exact hd2 _ (by omega) | fail)
                case hv => rfl
                refine dl0 (gy rfl rfl rfl rfl rfl rfl) rfl rfl (step_mv rfl rfl) trivial ?_
                refine' dl0 (gy rfl rfl rfl rfl rfl rfl) rfl rfl (step_index rfl (ev_mk rfl) (.inl rfl) (ev_mk rfl) Try.underlying60 F.sz64 (by omega) ?hr) trivial ?_
                case hr => exact map_at _ _ _ (by omega) (by omega)
                refine dl0 (gy rfl rfl rfl rfl rfl rfl) rfl rfl (step_fieldAddr_ro (off := 1) rfl (ev_mk rfl) Try.underlying64 rfl F.sz62 rfl rfl) trivial ?_
                refine dl0 (gy rfl rfl rfl rfl rfl rfl) rfl rfl (step_load_ro_all rfl rfl F.agg62 (by first | rfl | (simp; done) | (first | (simp; done) | (show ((at' (QQ np l) (u : Int)).2.map bV).length = 224; rw [List.length_map]; exact hqu_)))) trivial ?_
                refine dl0 (gy rfl rfl rfl rfl rfl rfl) rfl rfl (step_mv rfl rfl) trivial ?_
                refine dl0 (gy rfl rfl rfl rfl rfl rfl) rfl rfl (step_mv rfl rfl) trivial ?_
                refine dl0 (gy rfl rfl rfl rfl rfl rfl) rfl rfl (step_callc rfl Try.func26 rfl rfl rfl (rpage_c (at' (pgs np) ((u : Int) + 1)) (ptsA (LL np l) u) (by omega) (ptsA_ok (LL_ok hn4 hok) u)) (by repeat (first | exact .nil | refine .cons ?_ ?_ | exact VLe.refl _ | exact VLe.own_sl _ _ _ | exact VLe.fl_sl _ _ | exact VLe.nil_sl _ | exact VLe.nil_fl _ | refine VLe.agg ?_))) trivial ?_
                refine dl0 (gy rfl rfl rfl rfl rfl rfl) rfl rfl (step_neq62 rfl (ev_mk rfl) (ev_mk rfl) (QQ_2 hn4 hok (by omega) hnx_) (padP_len (by rw [pgP_len _ (Nat.le_refl _)]; omega))) trivial ?_
                refine dl0 (gn rfl) rfl rfl (step_pick rfl (ev_mk rfl) (ev_mk rfl)) trivial ?_
                refine dlnil ?_ ?_
                · repeat' (first | exact trivial | exact .inr (ap0 _ _ _ _) | exact .inr (ap2 _ _ _ _) | exact .inr (ap3 _ _ _ _) | exact .inr ⟨by first | (simp; done) | (simp; omega), by first | (simp; done) | (simp; omega)⟩ | exact .inl (by kernel_rfl) | refine ⟨?_, ?_⟩ | fail)
                refine runs_cond false (ev_mk rfl) (fun h_ => nomatch h_) (fun _ => ?_)
                refine runs_skip ?_
                refine runs_region ?_
                refine rl0 (gn rfl) rfl rfl (step_mv rfl rfl) trivial ?_
                refine rl0 (gn rfl) rfl rfl (step_add rfl (ev_mk rfl) (ev_mk rfl) (w64 (by omega))) trivial ?_
                refine rl0 (gn rfl) rfl rfl (step_as rfl rfl) trivial ?_
                refine runsL_nil ?_
                refine ⟨_, _, ?_, sle ?_ (Nat.le_refl _), (u + 1), _, _, rfl, rfl, by omega, (fun k_ hk_ => by repeat (first | exact hf2 k_ hk_ | exact hf0 k_ hk_ | exact hf1 k_ hk_ | refine uN (by first | assumption | omega) ?_ | fail)), by first | ((repeat (first | exact uE | assumption | refine uN (by omega) ?_ | fail)); done) | exact tl_eq (by repeat (first | exact uE | assumption | refine uN (by omega) ?_ | fail)) (by first | rfl | (simp [bytesV, beB_len]; done) | (simp [bytesV, beB_len]; omega) | omega), by first | ((repeat (first | exact uE | assumption | refine uN (by omega) ?_ | fail)); done) | exact tl_eq (by repeat (first | exact uE | assumption | refine uN (by omega) ?_ | fail)) (by first | rfl | (simp [bytesV, beB_len]; done) | (simp [bytesV, beB_len]; omega) | omega), by first | ((repeat (first | exact uE | assumption | refine uN (by omega) ?_ | fail)); done) | exact tl_eq (by repeat (first | exact uE | assumption | refine uN (by omega) ?_ | fail)) (by first | rfl | (simp [bytesV, beB_len]; done) | (simp [bytesV, beB_len]; omega) | omega), by omega⟩
                · omega
                · (repeat' (first | exact trivial | refine ⟨⟨_, rfl, ?_⟩, ?_⟩ | fail)); all_goals (repeat' (first | exact VLe.refl _ | exact VLe.own_sl _ _ _ | exact VLe.fl_sl _ _ | exact VLe.nil_sl _ | exact VLe.nil_fl _ | exact VLes.refl _ | exact .nil | refine VLe.tup ?_ | refine VLe.agg ?_ | refine .cons ?_ ?_ | (rw [Int.natCast_add]; exact VLe.refl _) | exact vle_int (by omega) | exact vle_bool (by first | rfl | assumption | (simp_all; done) | fail) | fail))
              · skip
                have hnx_ := nxA_0 (g := pgs np) (i := u) (by omega)
                refine runsL_nil ?_
                refine runs_cond false (ev_mk rfl) (fun h_ => nomatch h_) (fun _ => ?_)
                refine runs_skip ?_
                refine runs_seq ?_
                refine runs_region ?_
                have hll_ : (adA np l l.length).length = (LL np l).length := rfl
                have hpa_ := ptsA_len (LL np l) u
                refine rl0 (gn rfl) rfl rfl (step_fieldAddr (off := 5) rfl (ev_mk rfl) Try.underlying44 rfl F.sz40 rfl) trivial ?_
                refine' rl0 (gn rfl) rfl rfl (step_load_one rfl (ev_mk rfl) F.one40 ?hv) ⟨?hb, trivial⟩ ?_
                case hb => repeat (first | exact uE | refine uN (by omega) ?_ | assumption | exact hd _ (by omega) | exact hd0 _ (by omega) | exact hd1 _ (by omega) | exact hd2 _ (by omega) | fail)
                case hv => rfl
                refine rl0 (gn rfl) rfl rfl (step_mv rfl rfl) trivial ?_
                refine rl0 (gn rfl) rfl rfl (step_mul rfl (ev_mk rfl) (ev_mk rfl) (w64 (by omega))) trivial ?_
                refine rl0 (gn rfl) rfl rfl (step_fieldAddr (off := 5) rfl (ev_mk rfl) Try.underlying44 rfl F.sz40 rfl) trivial ?_
                refine' rl0 (gn rfl) rfl rfl (step_load_one rfl (ev_mk rfl) F.one40 ?hv) ⟨?hb, trivial⟩ ?_
                case hb => repeat (first | exact uE | refine uN (by omega) ?_ | assumption | exact hd _ (by omega) | exact hd0 _ (by omega) | exact hd1 _ (by omega) | exact hd2 _ (by omega) | fail)
                case hv => rfl
                refine rl0 (gn rfl) rfl rfl (step_len (m := (LL np l).length) rfl rfl (ev_mk rfl) (.inl ⟨⟨_, Try.underlying40⟩, .inl ⟨_, _, .inl rfl, List.length_map _⟩⟩)) trivial ?_
                refine rl0 (gn rfl) rfl rfl (step_minr (r := ((min (8 * u) (LL np l).length) : Nat)) rfl (ev_mk rfl) (ev_mk rfl) (by split <;> omega)) trivial ?_
                refine rl0 (gn rfl) rfl rfl (step_mv rfl rfl) trivial ?_
                refine rl0 (gn rfl) rfl rfl (step_mul rfl (ev_mk rfl) (ev_mk rfl) (w64 (by omega))) trivial ?_
                refine rl0 (gn rfl) rfl rfl (step_add rfl (ev_mk rfl) (ev_mk rfl) (w64 (by omega))) trivial ?_
                refine rl0 (gn rfl) rfl rfl (step_fieldAddr (off := 5) rfl (ev_mk rfl) Try.underlying44 rfl F.sz40 rfl) trivial ?_
                refine' rl0 (gn rfl) rfl rfl (step_load_one rfl (ev_mk rfl) F.one40 ?hv) ⟨?hb, trivial⟩ ?_
                case hb => repeat (first | exact uE | refine uN (by omega) ?_ | assumption | exact hd _ (by omega) | exact hd0 _ (by omega) | exact hd1 _ (by omega) | exact hd2 _ (by omega) | fail)
                case hv => rfl
                refine rl0 (gn rfl) rfl rfl (step_len (m := (LL np l).length) rfl rfl (ev_mk rfl) (.inl ⟨⟨_, Try.underlying40⟩, .inl ⟨_, _, .inl rfl, List.length_map _⟩⟩)) trivial ?_
                refine rl0 (gn rfl) rfl rfl (step_minr (r := ((min (8 * u + 8) (LL np l).length) : Nat)) rfl (ev_mk rfl) (ev_mk rfl) (by split <;> omega)) trivial ?_
                refine rl0 (gn rfl) rfl rfl (step_slice (ys := (ptsA (LL np l) u).map ptC) (l := (min (8 * u) (LL np l).length)) (h := (min (8 * u + 8) (LL np l).length)) rfl (ev_mk rfl) (.inl rfl) Try.underlying40 F.sz50 (bndLo_nat (a := (min (8 * u) (LL np l).length)) rfl (by first | omega | (split <;> omega) | (first | (simp; done) | (show ((at' (QQ np l) (u : Int)).2.map bV).length = 224; rw [List.length_map]; exact hqu_)))) (bndHi_nat (a := (min (8 * u + 8) (LL np l).length)) rfl (by first | omega | (split <;> omega) | (first | (simp; done) | (show ((at' (QQ np l) (u : Int)).2.map bV).length = 224; rw [List.length_map]; exact hqu_)))) (by first | omega | exact Nat.zero_le _ | (simp; omega) | (first | (simp; done) | (show ((at' (QQ np l) (u : Int)).2.map bV).length = 224; rw [List.length_map]; exact hqu_))) (by rw [List.length_map]; omega) (cut_c (LL np l) u)) trivial ?_
                refine rl0 (gn rfl) rfl rfl (step_as rfl rfl) trivial ?_
                refine runsL_nil ?_
                refine runs_seq ?_
                refine runs_draw (by kernel_rfl) (by kernel_rfl) (by kernel_rfl) ?_
                have hqu_ := (QQ_ok hn4 hok _ (List.mem_of_getElem? (imat (show (u : Int) < (QQ np l).length by omega)))).2
                refine' dl0 (gn rfl) rfl rfl (step_load_one rfl (ev_mk rfl) F.one60 ?hv) ⟨?hb, trivial⟩ ?_
                case hb => repeat (first | exact uE | refine uN (by omega) ?_ | assumption | exact hd _ (by omega) | exact hd0 _ (by omega) | exact hd1 _ (by omega) | exact hd2 _ (by omega) | fail)
                case hv => rfl
                refine dl0 (gn rfl) rfl rfl (step_mv rfl rfl) trivial ?_
                refine' dl0 (gn rfl) rfl rfl (step_index rfl (ev_mk rfl) (.inl rfl) (ev_mk rfl) Try.underlying60 F.sz64 (by omega) ?hr) trivial ?_
                case hr => exact map_at _ _ _ (by omega) (by omega)
                refine dl0 (gn rfl) rfl rfl (step_fieldAddr_ro (off := 0) rfl (ev_mk rfl) Try.underlying64 rfl F.sz3 rfl rfl) trivial ?_
                refine dl0 (gn rfl) rfl rfl (step_load_ro (v := .sc (.int .i64 (at' (pgs np) (u : Int)))) rfl (ev_mk rfl) F.one3 (QQ_1 hn4 hok (by omega))) trivial ?_
                refine dl0 (gn rfl) rfl rfl (step_fieldAddr (off := 4) rfl (ev_mk rfl) Try.underlying44 rfl F.sz42 rfl) trivial ?_
                refine' dl0 (gn rfl) rfl rfl (step_load_one rfl (ev_mk rfl) F.one42 ?hv) ⟨?hb, trivial⟩ ?_
                case hb => repeat (first | exact uE | refine uN (by omega) ?_ | assumption | exact hd _ (by omega) | exact hd0 _ (by omega) | exact hd1 _ (by omega) | exact hd2 _ (by omega) | fail)
                case hv => rfl
                refine dl0 (gn rfl) rfl rfl (step_mv rfl rfl) trivial ?_
                refine' dl0 (gn rfl) rfl rfl (step_index rfl (ev_mk rfl) (.inl rfl) (ev_mk rfl) Try.underlying42 F.sz3 (by omega) ?hr) trivial ?_
                case hr => exact map_at _ _ _ (by omega) (by omega)
                refine dl0 (gn rfl) rfl rfl (step_load_ro rfl (ev_mk rfl) F.one3 rfl) trivial ?_
                refine dl_neq (gn rfl) rfl rfl rfl rfl rfl (fun h7 => ?_) (fun h7 => ?_)
                · exact False.elim (by exact h7 rfl)
                refine dl0 (gn rfl) rfl rfl (step_mv rfl rfl) trivial ?_
                refine' dl0 (gy rfl rfl rfl rfl rfl rfl) rfl rfl (step_load_one rfl (ev_mk rfl) F.one60 ?hv) ⟨?hb, trivial⟩ ?_
                case hb => repeat (first | exact uE | refine uN (by omega) ?_ | assumption | exact hd _ (by omega) | exact hd0 _ (by omega) | exact hd1 _ (by omega) | exact hd2 _ (by omega) | fail)
                case hv => rfl
                refine dl0 (gy rfl rfl rfl rfl rfl rfl) rfl rfl (step_mv rfl rfl) trivial ?_
                refine' dl0 (gy rfl rfl rfl rfl rfl rfl) rfl rfl (step_index rfl (ev_mk rfl) (.inl rfl) (ev_mk rfl) Try.underlying60 F.sz64 (by omega) ?hr) trivial ?_
                case hr => exact map_at _ _ _ (by omega) (by omega)
                refine dl0 (gy rfl rfl rfl rfl rfl rfl) rfl rfl (step_fieldAddr_ro (off := 1) rfl (ev_mk rfl) Try.underlying64 rfl F.sz62 rfl rfl) trivial ?_
                refine dl0 (gy rfl rfl rfl rfl rfl rfl) rfl rfl (step_load_ro_all rfl rfl F.agg62 (by first | rfl | (simp; done) | (first | (simp; done) | (show ((at' (QQ np l) (u : Int)).2.map bV).length = 224; rw [List.length_map]; exact hqu_)))) trivial ?_
                refine dl0 (gy rfl rfl rfl rfl rfl rfl) rfl rfl (step_mv rfl rfl) trivial ?_
                refine dl0 (gy rfl rfl rfl rfl rfl rfl) rfl rfl (step_mv rfl rfl) trivial ?_
                refine dl0 (gy rfl rfl rfl rfl rfl rfl) rfl rfl (step_callc rfl Try.func26 rfl rfl rfl (rpage_c 0 (ptsA (LL np l) u) (by omega) (ptsA_ok (LL_ok hn4 hok) u)) (by repeat (first | exact .nil | refine .cons ?_ ?_ | exact VLe.refl _ | exact VLe.own_sl _ _ _ | exact VLe.fl_sl _ _ | exact VLe.nil_sl _ | exact VLe.nil_fl _ | refine VLe.agg ?_))) trivial ?_
                refine dl0 (gy rfl rfl rfl rfl rfl rfl) rfl rfl (step_neq62 rfl (ev_mk rfl) (ev_mk rfl) (QQ_2 hn4 hok (by omega) hnx_) (padP_len (by rw [pgP_len _ (Nat.le_refl _)]; omega))) trivial ?_
                refine dl0 (gn rfl) rfl rfl (step_pick rfl (ev_mk rfl) (ev_mk rfl)) trivial ?_
                refine dlnil ?_ ?_
                · repeat' (first | exact trivial | exact .inr (ap0 _ _ _ _) | exact .inr (ap2 _ _ _ _) | exact .inr (ap3 _ _ _ _) | exact .inr ⟨by first | (simp; done) | (simp; omega), by first | (simp; done) | (simp; omega)⟩ | exact .inl (by kernel_rfl) | refine ⟨?_, ?_⟩ | fail)
                refine runs_cond false (ev_mk rfl) (fun h_ => nomatch h_) (fun _ => ?_)
                refine runs_skip ?_
                refine runs_region ?_
                refine rl0 (gn rfl) rfl rfl (step_mv rfl rfl) trivial ?_
                refine rl0 (gn rfl) rfl rfl (step_add rfl (ev_mk rfl) (ev_mk rfl) (w64 (by omega))) trivial ?_
                refine rl0 (gn rfl) rfl rfl (step_as rfl rfl) trivial ?_
                refine runsL_nil ?_
                refine ⟨_, _, ?_, sle ?_ (Nat.le_refl _), (u + 1), _, _, rfl, rfl, by omega, (fun k_ hk_ => by repeat (first | exact hf2 k_ hk_ | exact hf0 k_ hk_ | exact hf1 k_ hk_ | refine uN (by first | assumption | omega) ?_ | fail)), by first | ((repeat (first | exact uE | assumption | refine uN (by omega) ?_ | fail)); done) | exact tl_eq (by repeat (first | exact uE | assumption | refine uN (by omega) ?_ | fail)) (by first | rfl | (simp [bytesV, beB_len]; done) | (simp [bytesV, beB_len]; omega) | omega), by first | ((repeat (first | exact uE | assumption | refine uN (by omega) ?_ | fail)); done) | exact tl_eq (by repeat (first | exact uE | assumption | refine uN (by omega) ?_ | fail)) (by first | rfl | (simp [bytesV, beB_len]; done) | (simp [bytesV, beB_len]; omega) | omega), by first | ((repeat (first | exact uE | assumption | refine uN (by omega) ?_ | fail)); done) | exact tl_eq (by repeat (first | exact uE | assumption | refine uN (by omega) ?_ | fail)) (by first | rfl | (simp [bytesV, beB_len]; done) | (simp [bytesV, beB_len]; omega) | omega), by omega⟩
                · omega
                · (repeat' (first | exact trivial | refine ⟨⟨_, rfl, ?_⟩, ?_⟩ | fail)); all_goals (repeat' (first | exact VLe.refl _ | exact VLe.own_sl _ _ _ | exact VLe.fl_sl _ _ | exact VLe.nil_sl _ | exact VLe.nil_fl _ | exact VLes.refl _ | exact .nil | refine VLe.tup ?_ | refine VLe.agg ?_ | refine .cons ?_ ?_ | (rw [Int.natCast_add]; exact VLe.refl _) | exact vle_int (by omega) | exact vle_bool (by first | rfl | assumption | (simp_all; done) | fail) | fail))
            · skip
              obtain rfl : np = u := by omega
              refine runsL_nil ?_
              refine runs_cond false (ev_mk rfl) (fun h_ => nomatch h_) (fun _ => ?_)
              refine runs_exit ?_
              refine runs_seq ?_
              refine runs_region ?_
              refine' rl0 (gn rfl) rfl rfl (step_load_all rfl rfl F.agg23 ?hl) ⟨?hb, trivial⟩ ?_
              case hb => repeat (first | exact uE | refine uN (by omega) ?_ | assumption | exact hd _ (by omega) | exact hd0 _ (by omega) | exact hd1 _ (by omega) | exact hd2 _ (by omega) | fail)
              case hl => first | rfl | (simp; done) | (first | (simp; done) | (show ((at' (QQ np l) (u : Int)).2.map bV).length = 224; rw [List.length_map]; exact hqu_))
              refine rl0 (gn rfl) rfl rfl (step_makeFunc rfl rfl) trivial ?_
              refine rl0 (gn rfl) rfl rfl (step_callc rfl Try.func27 rfl rfl rfl (get_y4 a b c d 20 (lkP (QQ np l)) (lkO (QQ np l)) (QQ_pF hn4 hok) (m1 + 0) [.sl 225 ((QQ np l).map imR)] (fun w_ => at28 w_ _ (QQ np l) (fun q_ hq_ => (QQ_ok hn4 hok q_ hq_).2) (by omega)) (pgs np) (LL np l) (QQ_get hn4 hok)) (by repeat (first | exact .nil | refine .cons ?_ ?_ | exact VLe.refl _ | exact VLe.own_sl _ _ _ | exact VLe.fl_sl _ _ | exact VLe.nil_sl _ | exact VLe.nil_fl _ | refine VLe.agg ?_))) ⟨by repeat (first | exact uE | refine uN (by omega) ?_ | assumption | exact hd _ (by omega) | exact hd0 _ (by omega) | exact hd1 _ (by omega) | exact hd2 _ (by omega) | fail), trivial⟩ ?_
              refine rl0 (gn rfl) rfl rfl (step_mv rfl rfl) trivial ?_
              refine rl0 (gn rfl) rfl rfl (step_extract rfl (ev_mk rfl) rfl) trivial ?_
              refine rl0 (gn rfl) rfl rfl (step_extract rfl (ev_mk rfl) rfl) trivial ?_
              refine rl1 (gn rfl) rfl rfl (step_allocc (k := m2 + 0) (zs := [.int .i64 0, .int .i64 0, .int .i64 0, .int .i64 0, .slice none 0 0, .slice none 0 0]) (cs := [.sc (.int .i64 0), .sc (.int .i64 0), .sc (.int .i64 0), .sc (.int .i64 0), .sc (.slice none 0 0), .sc (.slice none 0 0)]) rfl F.zero44 (by first | rfl | simp) (by first | rfl | decide | simp) (by first | rfl | simp)) ⟨by repeat (first | exact uE | refine uN (by omega) ?_ | assumption | exact hd _ (by omega) | exact hd0 _ (by omega) | exact hd1 _ (by omega) | exact hd2 _ (by omega) | fail), trivial⟩ (by omega) ?_
              refine' rls (gn rfl) rfl (step_storeA rfl rfl rfl rfl F.agg44 ?hm ?hl) ⟨?hb, trivial⟩ ?hk ?_
              case hb => repeat (first | exact uE | refine uN (by omega) ?_ | assumption | exact hd _ (by omega) | exact hd0 _ (by omega) | exact hd1 _ (by omega) | exact hd2 _ (by omega) | fail)
              case hm => first | rfl | (simp; done) | (first | (simp; done) | (show ((at' (QQ np l) (u : Int)).2.map bV).length = 224; rw [List.length_map]; exact hqu_))
              case hl => first | rfl | (simp; done) | (first | (simp; done) | (show ((at' (QQ np l) (u : Int)).2.map bV).length = 224; rw [List.length_map]; exact hqu_))
              case hk => omega
              refine rl0 (gn rfl) rfl rfl (step_as rfl rfl) trivial ?_
              refine runsL_nil ?_
              refine runs_seq ?_
              refine runs_region ?_
              refine rl0 (gn rfl) rfl rfl (step_mv rfl rfl) trivial ?_
              refine rl0 (gn rfl) rfl rfl (step_mv rfl rfl) trivial ?_
              refine rl0 (gy rfl rfl rfl rfl rfl rfl) rfl rfl (step_fieldAddr (off := 0) rfl (ev_mk rfl) Try.underlying44 rfl F.sz23 rfl) trivial ?_
              refine' rl0 (gy rfl rfl rfl rfl rfl rfl) rfl rfl (step_load_agg rfl (ev_mk rfl) F.agg23 ?hc ?hl) ⟨?hb, trivial⟩ ?_
              case hb => repeat (first | exact uE | refine uN (by omega) ?_ | assumption | exact hd _ (by omega) | exact hd0 _ (by omega) | exact hd1 _ (by omega) | exact hd2 _ (by omega) | fail)
              case hc => rfl
              case hl => first | rfl | (simp; done) | (first | (simp; done) | (show ((at' (QQ np l) (u : Int)).2.map bV).length = 224; rw [List.length_map]; exact hqu_))
              refine' rl0 (gy rfl rfl rfl rfl rfl rfl) rfl rfl (step_load_all rfl rfl F.agg23 ?hl) ⟨?hb, trivial⟩ ?_
              case hb => repeat (first | exact uE | refine uN (by omega) ?_ | assumption | exact hd _ (by omega) | exact hd0 _ (by omega) | exact hd1 _ (by omega) | exact hd2 _ (by omega) | fail)
              case hl => first | rfl | (simp; done) | (first | (simp; done) | (show ((at' (QQ np l) (u : Int)).2.map bV).length = 224; rw [List.length_map]; exact hqu_))
              refine rl0 (gy rfl rfl rfl rfl rfl rfl) rfl rfl (step_eql23 rfl (ev_mk rfl) (ev_mk rfl)) trivial ?_
              refine rl_know (d := 134) (c := true) rfl (bx_refl a b c d) ?_
              refine rl0 (gn rfl) rfl rfl (step_pick rfl (ev_mk rfl) (ev_mk rfl)) trivial ?_
              refine rl0 (gn rfl) rfl rfl (step_mv rfl rfl) trivial ?_
              refine rl0 (gy rfl rfl rfl rfl rfl rfl) rfl rfl (step_fieldAddr (off := 4) rfl (ev_mk rfl) Try.underlying44 rfl F.sz42 rfl) trivial ?_
              refine' rl0 (gy rfl rfl rfl rfl rfl rfl) rfl rfl (step_load_one rfl (ev_mk rfl) F.one42 ?hv) ⟨?hb, trivial⟩ ?_
              case hb => repeat (first | exact uE | refine uN (by omega) ?_ | assumption | exact hd _ (by omega) | exact hd0 _ (by omega) | exact hd1 _ (by omega) | exact hd2 _ (by omega) | fail)
              case hv => rfl
              refine rl0 (gy rfl rfl rfl rfl rfl rfl) rfl rfl (step_len (m := np) rfl rfl (ev_mk rfl) (.inl ⟨⟨_, Try.underlying42⟩, .inl ⟨_, _, .inl rfl, by rw [List.length_map, pgs_len]⟩⟩)) trivial ?_
              refine rl0 (gy rfl rfl rfl rfl rfl rfl) rfl rfl (step_fieldAddr (off := 4) rfl (ev_mk rfl) Try.underlying44 rfl F.sz42 rfl) trivial ?_
              refine' rl0 (gy rfl rfl rfl rfl rfl rfl) rfl rfl (step_load_one rfl (ev_mk rfl) F.one42 ?hv) ⟨?hb, trivial⟩ ?_
              case hb => repeat (first | exact uE | refine uN (by omega) ?_ | assumption | exact hd _ (by omega) | exact hd0 _ (by omega) | exact hd1 _ (by omega) | exact hd2 _ (by omega) | fail)
              case hv => rfl
              refine rl0 (gy rfl rfl rfl rfl rfl rfl) rfl rfl (step_len (m := np) rfl rfl (ev_mk rfl) (.inl ⟨⟨_, Try.underlying42⟩, .inl ⟨_, _, .inl rfl, by rw [List.length_map, pgs_len]⟩⟩)) trivial ?_
              refine rl_eql (gy rfl rfl rfl rfl rfl rfl) rfl rfl rfl rfl rfl (fun h6 => ?_) (fun h6 => ?_)
              rotate_left
              · exact False.elim (by exact h6 rfl)
              refine rl0 (gn rfl) rfl rfl (step_pick rfl (ev_mk rfl) (ev_mk rfl)) trivial ?_
              refine rl0 (gn rfl) rfl rfl (step_mv rfl rfl) trivial ?_
              refine rl0 (gy rfl rfl rfl rfl rfl rfl) rfl rfl (step_fieldAddr (off := 5) rfl (ev_mk rfl) Try.underlying44 rfl F.sz40 rfl) trivial ?_
              refine' rl0 (gy rfl rfl rfl rfl rfl rfl) rfl rfl (step_load_one rfl (ev_mk rfl) F.one40 ?hv) ⟨?hb, trivial⟩ ?_
              case hb => repeat (first | exact uE | refine uN (by omega) ?_ | assumption | exact hd _ (by omega) | exact hd0 _ (by omega) | exact hd1 _ (by omega) | exact hd2 _ (by omega) | fail)
              case hv => rfl
              refine rl0 (gy rfl rfl rfl rfl rfl rfl) rfl rfl (step_fieldAddr (off := 5) rfl (ev_mk rfl) Try.underlying44 rfl F.sz40 rfl) trivial ?_
              refine' rl0 (gy rfl rfl rfl rfl rfl rfl) rfl rfl (step_load_one rfl (ev_mk rfl) F.one40 ?hv) ⟨?hb, trivial⟩ ?_
              case hb => repeat (first | exact uE | refine uN (by omega) ?_ | assumption | exact hd _ (by omega) | exact hd0 _ (by omega) | exact hd1 _ (by omega) | exact hd2 _ (by omega) | fail)
              case hv => rfl
              refine rl0 (gy rfl rfl rfl rfl rfl rfl) rfl rfl (step_callc rfl Try.func23 rfl rfl rfl (rsame_c (LL np l) (LL np l) (by omega) (by omega)) (by repeat (first | exact .nil | refine .cons ?_ ?_ | exact VLe.refl _ | exact VLe.own_sl _ _ _ | exact VLe.fl_sl _ _ | exact VLe.nil_sl _ | exact VLe.nil_fl _ | refine VLe.agg ?_))) trivial ?_
              refine rl_know (d := 150) (c := true) rfl ((by simp)) ?_
              refine rl0 (gn rfl) rfl rfl (step_pick rfl (ev_mk rfl) (ev_mk rfl)) trivial ?_
              refine rl0 (gn rfl) rfl rfl (step_mv rfl rfl) trivial ?_
              refine rl0 (gy rfl rfl rfl rfl rfl rfl) rfl rfl (step_callc rfl Try.func15 rfl rfl rfl (hw) (by repeat (first | exact .nil | refine .cons ?_ ?_ | exact VLe.refl _ | exact VLe.own_sl _ _ _ | exact VLe.fl_sl _ _ | exact VLe.nil_sl _ | exact VLe.nil_fl _ | refine VLe.agg ?_))) trivial ?_
              refine rl0 (gn rfl) rfl rfl (step_pick rfl (ev_mk rfl) (ev_mk rfl)) trivial ?_
              refine rl0 (gn rfl) rfl rfl (step_as rfl rfl) trivial ?_
              refine runsL_nil ?_
              refine runs_ret ?_
              refine ⟨by first | exact .inr rfl | exact .inl rfl, fin_mkg (rest rfl res0) ?_ ?_ ?_ ?_ ?_⟩
              · (repeat' (first | exact VLe.refl _ | exact VLe.own_sl _ _ _ | exact VLe.fl_sl _ _ | exact VLe.nil_sl _ | exact VLe.nil_fl _ | exact VLes.refl _ | exact .nil | refine VLe.tup ?_ | refine VLe.agg ?_ | refine .cons ?_ ?_ | (rw [Int.natCast_add]; exact VLe.refl _) | exact vle_int (by omega) | exact vle_bool (by first | rfl | assumption | (simp_all; done) | fail) | fail))
              · repeat (first | exact trivial | assumption | omega | (refine bdR_map (fun _ => ?_)) | (refine bdL_map (fun _ => ?_)) | refine ⟨?_, ?_⟩ | fail)
              · intro k_ hk_; exact ble (by repeat (first | exact rfl | refine uN (by omega) ?_ | assumption | exact hf0 _ (by omega) | exact hf1 _ (by omega) | exact hf2 _ (by omega) | fail))
              · intro p hp; cases hp
              · repeat (first | exact trivial | assumption | omega | (refine bdR_map (fun _ => ?_)) | (refine bdL_map (fun _ => ?_)) | refine ⟨?_, ?_⟩ | fail)
end Go.Proofs.Ytmlhekadnplpcaa
