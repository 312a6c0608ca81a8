/- Walks by the logic of values. -/
import Derived.Test.YtjmfdddeoadpaaaKbVmT
import Derived.Test.YtjmfdddeoadpaaaKbVmP
import Derived.Test.YtjmfdddeoadpaaaKbVmW
import Derived.Test.YtjmfdddeoadpaaaKbVmV
import Derived.Test.YtjmfdddeoadpaaaKbVa
import Derived.Test.YtjmfdddeoadpaaaKbVb
import Derived.Test.YtjmfdddeoadpaaaKbVc
import Derived.Test.YtjmfdddeoadpaaaKbVd
import Derived.Test.YtjmfdddeoadpaaaKbVe
import Derived.Test.YtjmfdddeoadpaaaKbVf
import Derived.Test.YtjmfdddeoadpaaaKbVg
namespace Go.Proofs.Ytjmfdddeoadpaaa
open Go.Vm
set_option linter.unusedVariables false
set_option linter.unusedSimpArgs false
attribute [local irreducible] pgC
theorem at_ab {f : Pf} {i : Nat} (h : i < f 0) : at' (ab f) (i : Int) = sl f i := by
  have h1 := mat (m := ab f) (i := i) (by rw [ab_len]; omega)
  rw [ab_get h] at h1; exact (Option.some.inj h1).symm
theorem sl_byts {f : Pf} (hb : ∀ k, f k < 256) (i : Nat) : Byts (sl f i).b := by
  unfold sl
  split
  · intro x hx
    obtain ⟨t, _, rfl⟩ := List.mem_map.1 hx
    have := hb (sA f i + t); omega
  · intro x hx; cases hx
theorem ab_small {f : Pf} (hs : Snd f) : (ab f).length ≤ 32 ∧ usdR (ab f) ≤ 224 := by
  have h1 := hs.l32
  have h2 := usd_le hs
  rw [ab_len, ← usd_R hs.z]; omega
theorem has_gt {f : Pf} (i : Int) : hasR (ab f) i = gtB f i := by
  unfold hasR gtB
  rw [ab_len]
  by_cases h : 0 ≤ i ∧ i < f 0
  · rw [decide_eq_true h, Bool.true_and, Bool.true_and, List.getD_eq_getElem?_getD, ab_get (by omega)]
    exact sl_is
  · rw [decide_eq_false h]; rfl
theorem add_rel {f : Pf} {b : List Int} (hs : Snd f) (hb : Byts b) : Snd (addP f b) ∧ ab (addP f b) = addR (ab f) b ∧ addC f b = addRC (ab f) b ∧ addI f b = addRI (ab f) b := by
  refine ⟨?_, ?_, rfl, rfl⟩
  · unfold addP
    split
    · exact hs
    · split
      · exact hs
      · exact (add_ok hs hb (by omega) (by omega)).1
  · unfold addP addR
    split
    · rfl
    · split
      · rfl
      · exact (add_ok hs hb (by omega) (by omega)).2
theorem drop_rel {f : Pf} {i : Int} (hs : Snd f) : Snd (dropP f i) ∧ ab (dropP f i) = dropR (ab f) i := by
  by_cases h : gtB f i = true
  · obtain ⟨j, rfl, hj, hp⟩ := gt_j h
    rw [drop2 hj hp, dropR2 (by rw [has_gt]; exact h), ab_len]
    exact drop_ok hs hj hp
  · have h' : gtB f i = false := by simpa using h
    rw [drop1 h', dropR1 (by rw [has_gt]; exact h')]
    exact ⟨hs, rfl⟩
theorem put_rel {f : Pf} {i : Int} {b : List Int} (hs : Snd f) (hb : Byts b) : Snd (putP f i b) ∧ ab (putP f i b) = putR (ab f) i b ∧ putC f i b = putRC (ab f) i b := by
  by_cases h : gtB f i = true
  · obtain ⟨j, rfl, hj, hp⟩ := gt_j h
    have hh : hasR (ab f) (j : Int) = true := by rw [has_gt]; exact h
    have hu := usd_R hs.z
    have hl : (at' (ab f) (j : Int)).b.length = sN f j := by rw [at_ab hj]; exact sl_len (hs.z j hj)
    by_cases h2 : (b.length : Int) > 224
    · rw [(put2 h h2).1, (put2 h h2).2, (putR2 hh h2).1, (putR2 hh h2).2]; exact ⟨hs, rfl, rfl⟩
    · by_cases h3 : (222 : Int) - 2 * f 0 - usd f (f 0) + sN f j < b.length
      · have h3' : (222 : Int) - 2 * (ab f).length - usdR (ab f) + (at' (ab f) (j : Int)).b.length < b.length := by rw [ab_len, ← hu, hl]; exact h3
        rw [(put3 h h2 h3).1, (put3 h h2 h3).2, (putR3 hh h2 h3').1, (putR3 hh h2 h3').2]; exact ⟨hs, rfl, rfl⟩
      · have h3' : ¬ (222 : Int) - 2 * (ab f).length - usdR (ab f) + (at' (ab f) (j : Int)).b.length < b.length := by rw [ab_len, ← hu, hl]; exact h3
        rw [(put4 h h2 h3).1, (put4 h h2 h3).2, (putR4 hh h2 h3').1, (putR4 hh h2 h3').2]
        have := put_ok hs hj hp hb (by omega) (by omega)
        exact ⟨this.1, this.2, rfl⟩
  · have h' : gtB f i = false := by simpa using h
    have hh : hasR (ab f) i = false := by rw [has_gt]; exact h'
    rw [(put1 h').1, (put1 h').2, (putR1 hh).1, (putR1 hh).2]; exact ⟨hs, rfl, rfl⟩
structure Op where
  kind : Int
  i : Int
  b : List Int
deriving Inhabited
abbrev opC (o : Op) : List V := [.sc (.int .i64 o.kind), .sc (.int .i64 o.i), .sl 1 (bytesV o.b)]
def okO (o : Op) : Prop := Byts o.b ∧ o.b.length ≤ 300
def doP (f : Pf) (o : Op) : Pf := if o.kind = 0 ∨ o.kind = 1 then addP f o.b else if o.kind = 2 then dropP f o.i else if o.kind = 3 then putP f o.i o.b else pk f
theorem do_a {f : Pf} {o : Op} (h : o.kind = 0 ∨ o.kind = 1) : doP f o = addP f o.b := if_pos h
theorem do_b {f : Pf} {o : Op} (h : o.kind = 2) : doP f o = dropP f o.i := (if_neg (by omega)).trans (if_pos h)
theorem do_c' {f : Pf} {o : Op} (h : o.kind = 3) : doP f o = putP f o.i o.b := (if_neg (by omega)).trans ((if_neg (by omega)).trans (if_pos h))
theorem do_d {f : Pf} {o : Op} (h : ¬ (o.kind = 0 ∨ o.kind = 1)) (h2 : ¬ o.kind = 2) (h3 : ¬ o.kind = 3) : doP f o = pk f := (if_neg h).trans ((if_neg h2).trans (if_neg h3))
theorem do_snd {f : Pf} {o : Op} (hs : Snd f) (hb : Byts o.b) : Snd (doP f o) := by
  unfold doP
  split
  · exact (add_rel hs hb).1
  · split
    · exact (drop_rel hs).1
    · split
      · exact (put_rel hs hb).1
      · exact (pack_ hs).1
set_option maxRecDepth 100000 in
set_option maxHeartbeats 4000000 in
theorem do_c (f : Pf) (hs : Snd f) (o : Op) (ho : okO o) : Does Try.prog 9 [.agg (pgC f), .sl 2 ((ab f).map slR), .agg (opC o)] [] [] (.tup [.agg (pgC (doP f o)), .sl 2 ((ab (doP f o)).map slR), .sc (.bool true)]) := by
  refine does_mkg 40 Try.func9 rfl rfl rfl (fun n B bx hd hpre hup hvs hbx hgx => ?_)
  have hsm_ := ab_small hs
  have hob_ := ho.2
  refine runs_seq ?_
  refine runs_region ?_
  refine rl1 (gn rfl) rfl rfl (step_box_agg (k := n + 0) rfl rfl) ⟨by repeat (first | exact uE | refine uN (by omega) ?_ | assumption | exact hd _ (by omega) | fail), trivial⟩ (by omega) ?_
  refine rl1 (gn rfl) rfl rfl (step_box_agg (k := n + 1) rfl rfl) ⟨by repeat (first | exact uE | refine uN (by omega) ?_ | assumption | exact hd _ (by omega) | fail), trivial⟩ (by omega) ?_
  refine rl1 (gn rfl) rfl rfl (step_allocc (k := n + 2) (zs := (List.replicate 224 (.int .u8 0))) (cs := List.replicate 224 (.sc (.int .u8 0))) rfl F.zero27 (by first | rfl | simp) (by first | rfl | decide | simp) (by first | rfl | simp)) ⟨by repeat (first | exact uE | refine uN (by omega) ?_ | assumption | exact hd _ (by omega) | fail), trivial⟩ (by omega) ?_
  refine rl0 (gn rfl) rfl rfl (step_as rfl rfl) trivial ?_
  refine rl0 (gn rfl) rfl rfl (step_as rfl rfl) trivial ?_
  refine runsL_nil ?_
  refine runs_seq ?_
  refine runs_seq ?_
  refine runs_region ?_
  refine rl0 (gn rfl) rfl rfl (step_fieldAddr (off := 0) rfl (ev_mk rfl) Try.underlying34 rfl F.sz3 rfl) trivial ?_
  refine' rl0 (gn rfl) rfl rfl (step_load_one rfl (ev_mk rfl) F.one3 ?hv) ⟨?hb, trivial⟩ ?_
  case hb => repeat (first | exact uE | refine uN (by omega) ?_ | assumption | exact hd _ (by omega) | fail)
  case hv => rfl
  refine runsL_nil ?_
  refine runs_block ?_
  refine runs_seq ?_
  refine runs_seq ?_
  refine runs_region ?_
  refine rl_eql (gn rfl) rfl rfl rfl rfl rfl (fun h1 => ?_) (fun h1 => ?_)
  · skip
    refine rl0 (gn rfl) rfl rfl (step_as rfl rfl) trivial ?_
    refine runsL_nil ?_
    refine runs_cond true (ev_mk rfl) (fun _ => ?_) (fun h_ => nomatch h_)
    refine runs_skip ?_
    refine runs_cond true (ev_mk rfl) (fun _ => ?_) (fun h_ => nomatch h_)
    refine runs_seq ?_
    refine runs_region ?_
    have hdo_ := do_a (f := f) (o := o) (by omega)
    obtain ⟨r1_, r2_, r3_, r4_⟩ := add_rel (b := o.b) hs ho.1
    refine' rl0 (gn rfl) rfl rfl (step_load_all rfl rfl F.agg27 ?hl) ⟨?hb, trivial⟩ ?_
    case hb => repeat (first | exact uE | refine uN (by omega) ?_ | assumption | exact hd _ (by omega) | fail)
    case hl => first | rfl | (simp; done) | (first | exact pgC_len _ | (simp; done) | (rw [pgC_len]; omega) | omega)
    refine rl0 (gn rfl) rfl rfl (step_fieldAddr (off := 2) rfl (ev_mk rfl) Try.underlying34 rfl F.sz32 rfl) trivial ?_
    refine' rl0 (gn rfl) rfl rfl (step_load_one rfl (ev_mk rfl) F.one32 ?hv) ⟨?hb, trivial⟩ ?_
    case hb => repeat (first | exact uE | refine uN (by omega) ?_ | assumption | exact hd _ (by omega) | fail)
    case hv => rfl
    refine rl0 (gn rfl) rfl rfl (step_callc rfl Try.func17 rfl rfl rfl (add_c f hs o.b ho.1 (by omega)) (by repeat (first | exact .nil | refine .cons ?_ ?_ | exact VLe.refl _ | exact VLe.own_sl _ _ _ | exact VLe.fl_sl _ _ | exact VLe.nil_sl _ | exact vle_int (by omega)))) trivial ?_
    refine rl0 (gn rfl) rfl rfl (step_mv rfl rfl) trivial ?_
    refine rl0 (gn rfl) rfl rfl (step_extract rfl (ev_mk rfl) rfl) trivial ?_
    refine rl0 (gn rfl) rfl rfl (step_extract rfl (ev_mk rfl) rfl) trivial ?_
    refine rl0 (gn rfl) rfl rfl (step_extract rfl (ev_mk rfl) rfl) trivial ?_
    refine rl1 (gn rfl) rfl rfl (step_allocc (k := n + 3) (zs := (List.replicate 224 (.int .u8 0))) (cs := List.replicate 224 (.sc (.int .u8 0))) rfl F.zero27 (by first | rfl | simp) (by first | rfl | decide | simp) (by first | rfl | simp)) ⟨by repeat (first | exact uE | refine uN (by omega) ?_ | assumption | exact hd _ (by omega) | fail), trivial⟩ (by omega) ?_
    refine' rls (gn rfl) rfl (step_storeA rfl rfl rfl rfl F.agg27 ?hm ?hl) ⟨?hb, trivial⟩ ?hk ?_
    case hb => repeat (first | exact uE | refine uN (by omega) ?_ | assumption | exact hd _ (by omega) | fail)
    case hm => first | rfl | (simp; done) | (first | exact pgC_len _ | (simp; done) | (rw [pgC_len]; omega) | omega)
    case hl => first | rfl | (simp; done) | (first | exact pgC_len _ | (simp; done) | (rw [pgC_len]; omega) | omega)
    case hk => omega
    refine rl0 (gn rfl) rfl rfl (step_as rfl rfl) trivial ?_
    refine rl0 (gn rfl) rfl rfl (step_as rfl rfl) trivial ?_
    refine runsL_nil ?_
    refine runs_seq ?_
    refine runs_region ?_
    refine rl0 (gn rfl) rfl rfl (step_mv rfl rfl) trivial ?_
    refine rl0 (gn rfl) rfl rfl (step_fieldAddr (off := 2) rfl (ev_mk rfl) Try.underlying34 rfl F.sz32 rfl) trivial ?_
    refine' rl0 (gn rfl) rfl rfl (step_load_one rfl (ev_mk rfl) F.one32 ?hv) ⟨?hb, trivial⟩ ?_
    case hb => repeat (first | exact uE | refine uN (by omega) ?_ | assumption | exact hd _ (by omega) | fail)
    case hv => rfl
    refine rl0 (gn rfl) rfl rfl (step_callc rfl Try.func22 rfl rfl rfl (radd_c (ab f) (by omega) (by omega) o.b (by omega)) (by repeat (first | exact .nil | refine .cons ?_ ?_ | exact VLe.refl _ | exact VLe.own_sl _ _ _ | exact VLe.fl_sl _ _ | exact VLe.nil_sl _ | exact vle_int (by omega)))) trivial ?_
    refine rl0 (gn rfl) rfl rfl (step_mv rfl rfl) trivial ?_
    refine rl0 (gn rfl) rfl rfl (step_extract rfl (ev_mk rfl) rfl) trivial ?_
    refine rl0 (gn rfl) rfl rfl (step_extract rfl (ev_mk rfl) rfl) trivial ?_
    refine rl0 (gn rfl) rfl rfl (step_extract rfl (ev_mk rfl) rfl) trivial ?_
    refine rl0 (gn rfl) rfl rfl (step_as rfl rfl) trivial ?_
    refine rl0 (gn rfl) rfl rfl (step_as rfl rfl) trivial ?_
    refine rl0 (gn rfl) rfl rfl (step_as rfl rfl) trivial ?_
    refine runsL_nil ?_
    refine runs_seq ?_
    refine runs_region ?_
    refine' rl0 (gn rfl) rfl rfl (step_load_all rfl rfl F.agg27 ?hl) ⟨?hb, trivial⟩ ?_
    case hb => repeat (first | exact uE | refine uN (by omega) ?_ | assumption | exact hd _ (by omega) | fail)
    case hl => first | rfl | (simp; done) | (first | exact pgC_len _ | (simp; done) | (rw [pgC_len]; omega) | omega)
    refine rl0 (gn rfl) rfl rfl (step_mv rfl rfl) trivial ?_
    refine rl0 (gn rfl) rfl rfl (step_mv rfl rfl) trivial ?_
    refine rl0 (gn rfl) rfl rfl (step_mv rfl rfl) trivial ?_
    refine rl_eql (gn rfl) rfl rfl rfl rfl rfl (fun h2 => ?_) (fun h2 => ?_)
    rotate_left
    · exact False.elim (by exact h2 r4_)
    refine rl0 (gn rfl) rfl rfl (step_mv rfl rfl) trivial ?_
    refine rl0 (gy rfl rfl rfl rfl rfl rfl) rfl rfl (step_mv rfl rfl) trivial ?_
    refine rl0 (gy rfl rfl rfl rfl rfl rfl) rfl rfl (step_mv rfl rfl) trivial ?_
    refine rl_eql (gy rfl rfl rfl rfl rfl rfl) rfl rfl rfl rfl rfl (fun h3 => ?_) (fun h3 => ?_)
    rotate_left
    · exact False.elim (by exact h3 r3_)
    refine rl0 (gn rfl) rfl rfl (step_pick rfl (ev_mk rfl) (ev_mk rfl)) trivial ?_
    refine' rls (gn rfl) rfl (step_storeA rfl rfl rfl rfl F.agg27 ?hm ?hl) ⟨?hb, trivial⟩ ?hk ?_
    case hb => repeat (first | exact uE | refine uN (by omega) ?_ | assumption | exact hd _ (by omega) | fail)
    case hm => first | rfl | (simp; done) | (first | exact pgC_len _ | (simp; done) | (rw [pgC_len]; omega) | omega)
    case hl => first | rfl | (simp; done) | (first | exact pgC_len _ | (simp; done) | (rw [pgC_len]; omega) | omega)
    case hk => omega
    refine rl0 (gn rfl) rfl rfl (step_as rfl rfl) trivial ?_
    refine rl0 (gn rfl) rfl rfl (step_as rfl rfl) trivial ?_
    refine runsL_nil ?_
    refine runs_ret ?_
    refine ⟨by first | exact .inr rfl | exact .inl rfl, fin_mkg (resc rfl (by repeat (first | exact uE | refine uN (by omega) ?_ | assumption | exact hd _ (by omega) | fail)) F.agg27 (by first | rfl | (simp; done) | (first | exact pgC_len _ | (simp; done) | (rw [pgC_len]; omega) | omega)) (rest rfl (rest rfl res0))) ?_ ?_ ?_ ?_ ?_⟩
    · (repeat' (first | exact VLe.refl _ | exact VLe.own_sl _ _ _ | exact VLe.fl_sl _ _ | exact VLe.nil_sl _ | exact VLe.nil_fl _ | exact VLes.refl _ | exact .nil | refine VLe.tup ?_ | refine VLe.agg ?_ | refine .cons ?_ ?_ | (rw [Int.natCast_add]; exact VLe.refl _) | exact vle_int (by omega) | exact vle_bool (by first | rfl | assumption | (simp_all; done) | fail) | ((rw [hdo_]; exact VLes.refl _)) | ((rw [hdo_, r2_]; exact VLe.refl _)) | fail))
    · first | ((repeat (first | exact trivial | exact bd_pgA _ _ | exact bd_pg _ _ | assumption | omega | (refine bdR_map (fun _ => ?_)) | refine ⟨?_, ?_⟩ | fail)); done) | (repeat (first | exact trivial | assumption | omega | (refine bdR_map (fun _ => ?_)) | (refine bdL_map (fun _ => ?_)) | refine ⟨?_, ?_⟩ | fail))
    · intro k_ hk_; exact ble (by repeat (first | exact rfl | refine uN (by omega) ?_ | assumption | fail))
    · intro p hp; cases hp
    · first | ((repeat (first | exact trivial | exact bd_pgA _ _ | exact bd_pg _ _ | assumption | omega | (refine bdR_map (fun _ => ?_)) | refine ⟨?_, ?_⟩ | fail)); done) | (repeat (first | exact trivial | assumption | omega | (refine bdR_map (fun _ => ?_)) | (refine bdL_map (fun _ => ?_)) | refine ⟨?_, ?_⟩ | fail))
  · skip
    refine rl0 (gn rfl) rfl rfl (step_as rfl rfl) trivial ?_
    refine runsL_nil ?_
    refine runs_cond false (ev_mk rfl) (fun h_ => nomatch h_) (fun _ => ?_)
    refine runs_region ?_
    refine rl_eql (gn rfl) rfl rfl rfl rfl rfl (fun h2 => ?_) (fun h2 => ?_)
    · skip
      refine rl0 (gn rfl) rfl rfl (step_as rfl rfl) trivial ?_
      refine runsL_nil ?_
      refine runs_cond true (ev_mk rfl) (fun _ => ?_) (fun h_ => nomatch h_)
      refine runs_seq ?_
      refine runs_region ?_
      have hdo_ := do_a (f := f) (o := o) (by omega)
      obtain ⟨r1_, r2_, r3_, r4_⟩ := add_rel (b := o.b) hs ho.1
      refine' rl0 (gn rfl) rfl rfl (step_load_all rfl rfl F.agg27 ?hl) ⟨?hb, trivial⟩ ?_
      case hb => repeat (first | exact uE | refine uN (by omega) ?_ | assumption | exact hd _ (by omega) | fail)
      case hl => first | rfl | (simp; done) | (first | exact pgC_len _ | (simp; done) | (rw [pgC_len]; omega) | omega)
      refine rl0 (gn rfl) rfl rfl (step_fieldAddr (off := 2) rfl (ev_mk rfl) Try.underlying34 rfl F.sz32 rfl) trivial ?_
      refine' rl0 (gn rfl) rfl rfl (step_load_one rfl (ev_mk rfl) F.one32 ?hv) ⟨?hb, trivial⟩ ?_
      case hb => repeat (first | exact uE | refine uN (by omega) ?_ | assumption | exact hd _ (by omega) | fail)
      case hv => rfl
      refine rl0 (gn rfl) rfl rfl (step_callc rfl Try.func17 rfl rfl rfl (add_c f hs o.b ho.1 (by omega)) (by repeat (first | exact .nil | refine .cons ?_ ?_ | exact VLe.refl _ | exact VLe.own_sl _ _ _ | exact VLe.fl_sl _ _ | exact VLe.nil_sl _ | exact vle_int (by omega)))) trivial ?_
      refine rl0 (gn rfl) rfl rfl (step_mv rfl rfl) trivial ?_
      refine rl0 (gn rfl) rfl rfl (step_extract rfl (ev_mk rfl) rfl) trivial ?_
      refine rl0 (gn rfl) rfl rfl (step_extract rfl (ev_mk rfl) rfl) trivial ?_
      refine rl0 (gn rfl) rfl rfl (step_extract rfl (ev_mk rfl) rfl) trivial ?_
      refine rl1 (gn rfl) rfl rfl (step_allocc (k := n + 3) (zs := (List.replicate 224 (.int .u8 0))) (cs := List.replicate 224 (.sc (.int .u8 0))) rfl F.zero27 (by first | rfl | simp) (by first | rfl | decide | simp) (by first | rfl | simp)) ⟨by repeat (first | exact uE | refine uN (by omega) ?_ | assumption | exact hd _ (by omega) | fail), trivial⟩ (by omega) ?_
      refine' rls (gn rfl) rfl (step_storeA rfl rfl rfl rfl F.agg27 ?hm ?hl) ⟨?hb, trivial⟩ ?hk ?_
      case hb => repeat (first | exact uE | refine uN (by omega) ?_ | assumption | exact hd _ (by omega) | fail)
      case hm => first | rfl | (simp; done) | (first | exact pgC_len _ | (simp; done) | (rw [pgC_len]; omega) | omega)
      case hl => first | rfl | (simp; done) | (first | exact pgC_len _ | (simp; done) | (rw [pgC_len]; omega) | omega)
      case hk => omega
      refine rl0 (gn rfl) rfl rfl (step_as rfl rfl) trivial ?_
      refine rl0 (gn rfl) rfl rfl (step_as rfl rfl) trivial ?_
      refine runsL_nil ?_
      refine runs_seq ?_
      refine runs_region ?_
      refine rl0 (gn rfl) rfl rfl (step_mv rfl rfl) trivial ?_
      refine rl0 (gn rfl) rfl rfl (step_fieldAddr (off := 2) rfl (ev_mk rfl) Try.underlying34 rfl F.sz32 rfl) trivial ?_
      refine' rl0 (gn rfl) rfl rfl (step_load_one rfl (ev_mk rfl) F.one32 ?hv) ⟨?hb, trivial⟩ ?_
      case hb => repeat (first | exact uE | refine uN (by omega) ?_ | assumption | exact hd _ (by omega) | fail)
      case hv => rfl
      refine rl0 (gn rfl) rfl rfl (step_callc rfl Try.func22 rfl rfl rfl (radd_c (ab f) (by omega) (by omega) o.b (by omega)) (by repeat (first | exact .nil | refine .cons ?_ ?_ | exact VLe.refl _ | exact VLe.own_sl _ _ _ | exact VLe.fl_sl _ _ | exact VLe.nil_sl _ | exact vle_int (by omega)))) trivial ?_
      refine rl0 (gn rfl) rfl rfl (step_mv rfl rfl) trivial ?_
      refine rl0 (gn rfl) rfl rfl (step_extract rfl (ev_mk rfl) rfl) trivial ?_
      refine rl0 (gn rfl) rfl rfl (step_extract rfl (ev_mk rfl) rfl) trivial ?_
      refine rl0 (gn rfl) rfl rfl (step_extract rfl (ev_mk rfl) rfl) trivial ?_
      refine rl0 (gn rfl) rfl rfl (step_as rfl rfl) trivial ?_
      refine rl0 (gn rfl) rfl rfl (step_as rfl rfl) trivial ?_
      refine rl0 (gn rfl) rfl rfl (step_as rfl rfl) trivial ?_
      refine runsL_nil ?_
      refine runs_seq ?_
      refine runs_region ?_
      refine' rl0 (gn rfl) rfl rfl (step_load_all rfl rfl F.agg27 ?hl) ⟨?hb, trivial⟩ ?_
      case hb => repeat (first | exact uE | refine uN (by omega) ?_ | assumption | exact hd _ (by omega) | fail)
      case hl => first | rfl | (simp; done) | (first | exact pgC_len _ | (simp; done) | (rw [pgC_len]; omega) | omega)
      refine rl0 (gn rfl) rfl rfl (step_mv rfl rfl) trivial ?_
      refine rl0 (gn rfl) rfl rfl (step_mv rfl rfl) trivial ?_
      refine rl0 (gn rfl) rfl rfl (step_mv rfl rfl) trivial ?_
      refine rl_eql (gn rfl) rfl rfl rfl rfl rfl (fun h3 => ?_) (fun h3 => ?_)
      rotate_left
      · exact False.elim (by exact h3 r4_)
      refine rl0 (gn rfl) rfl rfl (step_mv rfl rfl) trivial ?_
      refine rl0 (gy rfl rfl rfl rfl rfl rfl) rfl rfl (step_mv rfl rfl) trivial ?_
      refine rl0 (gy rfl rfl rfl rfl rfl rfl) rfl rfl (step_mv rfl rfl) trivial ?_
      refine rl_eql (gy rfl rfl rfl rfl rfl rfl) rfl rfl rfl rfl rfl (fun h4 => ?_) (fun h4 => ?_)
      rotate_left
      · exact False.elim (by exact h4 r3_)
      refine rl0 (gn rfl) rfl rfl (step_pick rfl (ev_mk rfl) (ev_mk rfl)) trivial ?_
      refine' rls (gn rfl) rfl (step_storeA rfl rfl rfl rfl F.agg27 ?hm ?hl) ⟨?hb, trivial⟩ ?hk ?_
      case hb => repeat (first | exact uE | refine uN (by omega) ?_ | assumption | exact hd _ (by omega) | fail)
      case hm => first | rfl | (simp; done) | (first | exact pgC_len _ | (simp; done) | (rw [pgC_len]; omega) | omega)
      case hl => first | rfl | (simp; done) | (first | exact pgC_len _ | (simp; done) | (rw [pgC_len]; omega) | omega)
      case hk => omega
      refine rl0 (gn rfl) rfl rfl (step_as rfl rfl) trivial ?_
      refine rl0 (gn rfl) rfl rfl (step_as rfl rfl) trivial ?_
      refine runsL_nil ?_
      refine runs_ret ?_
      refine ⟨by first | exact .inr rfl | exact .inl rfl, fin_mkg (resc rfl (by repeat (first | exact uE | refine uN (by omega) ?_ | assumption | exact hd _ (by omega) | fail)) F.agg27 (by first | rfl | (simp; done) | (first | exact pgC_len _ | (simp; done) | (rw [pgC_len]; omega) | omega)) (rest rfl (rest rfl res0))) ?_ ?_ ?_ ?_ ?_⟩
      · (repeat' (first | exact VLe.refl _ | exact VLe.own_sl _ _ _ | exact VLe.fl_sl _ _ | exact VLe.nil_sl _ | exact VLe.nil_fl _ | exact VLes.refl _ | exact .nil | refine VLe.tup ?_ | refine VLe.agg ?_ | refine .cons ?_ ?_ | (rw [Int.natCast_add]; exact VLe.refl _) | exact vle_int (by omega) | exact vle_bool (by first | rfl | assumption | (simp_all; done) | fail) | ((rw [hdo_]; exact VLes.refl _)) | ((rw [hdo_, r2_]; exact VLe.refl _)) | fail))
      · first | ((repeat (first | exact trivial | exact bd_pgA _ _ | exact bd_pg _ _ | assumption | omega | (refine bdR_map (fun _ => ?_)) | refine ⟨?_, ?_⟩ | fail)); done) | (repeat (first | exact trivial | assumption | omega | (refine bdR_map (fun _ => ?_)) | (refine bdL_map (fun _ => ?_)) | refine ⟨?_, ?_⟩ | fail))
      · intro k_ hk_; exact ble (by repeat (first | exact rfl | refine uN (by omega) ?_ | assumption | fail))
      · intro p hp; cases hp
      · first | ((repeat (first | exact trivial | exact bd_pgA _ _ | exact bd_pg _ _ | assumption | omega | (refine bdR_map (fun _ => ?_)) | refine ⟨?_, ?_⟩ | fail)); done) | (repeat (first | exact trivial | assumption | omega | (refine bdR_map (fun _ => ?_)) | (refine bdL_map (fun _ => ?_)) | refine ⟨?_, ?_⟩ | fail))
    · skip
      refine rl0 (gn rfl) rfl rfl (step_as rfl rfl) trivial ?_
      refine runsL_nil ?_
      refine runs_cond false (ev_mk rfl) (fun h_ => nomatch h_) (fun _ => ?_)
      refine runs_seq ?_
      refine runs_region ?_
      refine rl_eql (gn rfl) rfl rfl rfl rfl rfl (fun h3 => ?_) (fun h3 => ?_)
      · skip
        refine rl0 (gn rfl) rfl rfl (step_as rfl rfl) trivial ?_
        refine runsL_nil ?_
        refine runs_cond true (ev_mk rfl) (fun _ => ?_) (fun h_ => nomatch h_)
        refine runs_seq ?_
        refine runs_region ?_
        have hdo_ := do_b (f := f) (o := o) (by omega)
        obtain ⟨r1_, r2_⟩ := drop_rel (i := o.i) hs
        refine' rl0 (gn rfl) rfl rfl (step_load_all rfl rfl F.agg27 ?hl) ⟨?hb, trivial⟩ ?_
        case hb => repeat (first | exact uE | refine uN (by omega) ?_ | assumption | exact hd _ (by omega) | fail)
        case hl => first | rfl | (simp; done) | (first | exact pgC_len _ | (simp; done) | (rw [pgC_len]; omega) | omega)
        refine rl0 (gn rfl) rfl rfl (step_fieldAddr (off := 1) rfl (ev_mk rfl) Try.underlying34 rfl F.sz3 rfl) trivial ?_
        refine' rl0 (gn rfl) rfl rfl (step_load_one rfl (ev_mk rfl) F.one3 ?hv) ⟨?hb, trivial⟩ ?_
        case hb => repeat (first | exact uE | refine uN (by omega) ?_ | assumption | exact hd _ (by omega) | fail)
        case hv => rfl
        refine rl0 (gn rfl) rfl rfl (step_callc rfl Try.func18 rfl rfl rfl (drop_c f hs o.i) (by repeat (first | exact .nil | refine .cons ?_ ?_ | exact VLe.refl _ | exact VLe.own_sl _ _ _ | exact VLe.fl_sl _ _ | exact VLe.nil_sl _ | exact vle_int (by omega)))) trivial ?_
        refine rl0 (gn rfl) rfl rfl (step_mv rfl rfl) trivial ?_
        refine rl0 (gn rfl) rfl rfl (step_extract rfl (ev_mk rfl) rfl) trivial ?_
        refine rl0 (gn rfl) rfl rfl (step_extract rfl (ev_mk rfl) rfl) trivial ?_
        refine rl1 (gn rfl) rfl rfl (step_allocc (k := n + 3) (zs := (List.replicate 224 (.int .u8 0))) (cs := List.replicate 224 (.sc (.int .u8 0))) rfl F.zero27 (by first | rfl | simp) (by first | rfl | decide | simp) (by first | rfl | simp)) ⟨by repeat (first | exact uE | refine uN (by omega) ?_ | assumption | exact hd _ (by omega) | fail), trivial⟩ (by omega) ?_
        refine' rls (gn rfl) rfl (step_storeA rfl rfl rfl rfl F.agg27 ?hm ?hl) ⟨?hb, trivial⟩ ?hk ?_
        case hb => repeat (first | exact uE | refine uN (by omega) ?_ | assumption | exact hd _ (by omega) | fail)
        case hm => first | rfl | (simp; done) | (first | exact pgC_len _ | (simp; done) | (rw [pgC_len]; omega) | omega)
        case hl => first | rfl | (simp; done) | (first | exact pgC_len _ | (simp; done) | (rw [pgC_len]; omega) | omega)
        case hk => omega
        refine rl0 (gn rfl) rfl rfl (step_as rfl rfl) trivial ?_
        refine runsL_nil ?_
        refine runs_seq ?_
        refine runs_region ?_
        refine rl0 (gn rfl) rfl rfl (step_mv rfl rfl) trivial ?_
        refine rl0 (gn rfl) rfl rfl (step_fieldAddr (off := 1) rfl (ev_mk rfl) Try.underlying34 rfl F.sz3 rfl) trivial ?_
        refine' rl0 (gn rfl) rfl rfl (step_load_one rfl (ev_mk rfl) F.one3 ?hv) ⟨?hb, trivial⟩ ?_
        case hb => repeat (first | exact uE | refine uN (by omega) ?_ | assumption | exact hd _ (by omega) | fail)
        case hv => rfl
        refine rl0 (gn rfl) rfl rfl (step_callc rfl Try.func23 rfl rfl rfl (rdrop_c (ab f) (by omega) (by omega) o.i) (by repeat (first | exact .nil | refine .cons ?_ ?_ | exact VLe.refl _ | exact VLe.own_sl _ _ _ | exact VLe.fl_sl _ _ | exact VLe.nil_sl _ | exact vle_int (by omega)))) trivial ?_
        refine rl0 (gn rfl) rfl rfl (step_mv rfl rfl) trivial ?_
        refine rl0 (gn rfl) rfl rfl (step_extract rfl (ev_mk rfl) rfl) trivial ?_
        refine rl0 (gn rfl) rfl rfl (step_extract rfl (ev_mk rfl) rfl) trivial ?_
        refine rl0 (gn rfl) rfl rfl (step_as rfl rfl) trivial ?_
        refine rl0 (gn rfl) rfl rfl (step_as rfl rfl) trivial ?_
        refine runsL_nil ?_
        refine runs_seq ?_
        refine runs_region ?_
        refine' rl0 (gn rfl) rfl rfl (step_load_all rfl rfl F.agg27 ?hl) ⟨?hb, trivial⟩ ?_
        case hb => repeat (first | exact uE | refine uN (by omega) ?_ | assumption | exact hd _ (by omega) | fail)
        case hl => first | rfl | (simp; done) | (first | exact pgC_len _ | (simp; done) | (rw [pgC_len]; omega) | omega)
        refine rl0 (gn rfl) rfl rfl (step_mv rfl rfl) trivial ?_
        refine rl0 (gn rfl) rfl rfl (step_mv rfl rfl) trivial ?_
        refine rl0 (gn rfl) rfl rfl (step_mv rfl rfl) trivial ?_
        refine rl0 (gn rfl) rfl rfl (step_eqlb rfl (ev_mk rfl) (ev_mk rfl) Try.underlying4) trivial ?_
        refine rl_know (d := 74) (c := true) rfl ((by rw [has_gt]; simp)) ?_
        refine' rls (gn rfl) rfl (step_storeA rfl rfl rfl rfl F.agg27 ?hm ?hl) ⟨?hb, trivial⟩ ?hk ?_
        case hb => repeat (first | exact uE | refine uN (by omega) ?_ | assumption | exact hd _ (by omega) | fail)
        case hm => first | rfl | (simp; done) | (first | exact pgC_len _ | (simp; done) | (rw [pgC_len]; omega) | omega)
        case hl => first | rfl | (simp; done) | (first | exact pgC_len _ | (simp; done) | (rw [pgC_len]; omega) | omega)
        case hk => omega
        refine rl0 (gn rfl) rfl rfl (step_as rfl rfl) trivial ?_
        refine rl0 (gn rfl) rfl rfl (step_as rfl rfl) trivial ?_
        refine runsL_nil ?_
        refine runs_ret ?_
        refine ⟨by first | exact .inr rfl | exact .inl rfl, fin_mkg (resc rfl (by repeat (first | exact uE | refine uN (by omega) ?_ | assumption | exact hd _ (by omega) | fail)) F.agg27 (by first | rfl | (simp; done) | (first | exact pgC_len _ | (simp; done) | (rw [pgC_len]; omega) | omega)) (rest rfl (rest rfl res0))) ?_ ?_ ?_ ?_ ?_⟩
        · (repeat' (first | exact VLe.refl _ | exact VLe.own_sl _ _ _ | exact VLe.fl_sl _ _ | exact VLe.nil_sl _ | exact VLe.nil_fl _ | exact VLes.refl _ | exact .nil | refine VLe.tup ?_ | refine VLe.agg ?_ | refine .cons ?_ ?_ | (rw [Int.natCast_add]; exact VLe.refl _) | exact vle_int (by omega) | exact vle_bool (by first | rfl | assumption | (simp_all; done) | fail) | ((rw [hdo_]; exact VLes.refl _)) | ((rw [hdo_, r2_]; exact VLe.refl _)) | fail))
        · first | ((repeat (first | exact trivial | exact bd_pgA _ _ | exact bd_pg _ _ | assumption | omega | (refine bdR_map (fun _ => ?_)) | refine ⟨?_, ?_⟩ | fail)); done) | (repeat (first | exact trivial | assumption | omega | (refine bdR_map (fun _ => ?_)) | (refine bdL_map (fun _ => ?_)) | refine ⟨?_, ?_⟩ | fail))
        · intro k_ hk_; exact ble (by repeat (first | exact rfl | refine uN (by omega) ?_ | assumption | fail))
        · intro p hp; cases hp
        · first | ((repeat (first | exact trivial | exact bd_pgA _ _ | exact bd_pg _ _ | assumption | omega | (refine bdR_map (fun _ => ?_)) | refine ⟨?_, ?_⟩ | fail)); done) | (repeat (first | exact trivial | assumption | omega | (refine bdR_map (fun _ => ?_)) | (refine bdL_map (fun _ => ?_)) | refine ⟨?_, ?_⟩ | fail))
      · skip
        refine rl0 (gn rfl) rfl rfl (step_as rfl rfl) trivial ?_
        refine runsL_nil ?_
        refine runs_cond false (ev_mk rfl) (fun h_ => nomatch h_) (fun _ => ?_)
        refine runs_seq ?_
        refine runs_region ?_
        refine rl_eql (gn rfl) rfl rfl rfl rfl rfl (fun h4 => ?_) (fun h4 => ?_)
        · skip
          refine rl0 (gn rfl) rfl rfl (step_as rfl rfl) trivial ?_
          refine runsL_nil ?_
          refine runs_cond true (ev_mk rfl) (fun _ => ?_) (fun h_ => nomatch h_)
          refine runs_seq ?_
          refine runs_region ?_
          have hdo_ := do_c' (f := f) (o := o) (by omega)
          obtain ⟨r1_, r2_, r3_⟩ := put_rel (i := o.i) (b := o.b) hs ho.1
          refine' rl0 (gn rfl) rfl rfl (step_load_all rfl rfl F.agg27 ?hl) ⟨?hb, trivial⟩ ?_
          case hb => repeat (first | exact uE | refine uN (by omega) ?_ | assumption | exact hd _ (by omega) | fail)
          case hl => first | rfl | (simp; done) | (first | exact pgC_len _ | (simp; done) | (rw [pgC_len]; omega) | omega)
          refine rl0 (gn rfl) rfl rfl (step_fieldAddr (off := 1) rfl (ev_mk rfl) Try.underlying34 rfl F.sz3 rfl) trivial ?_
          refine' rl0 (gn rfl) rfl rfl (step_load_one rfl (ev_mk rfl) F.one3 ?hv) ⟨?hb, trivial⟩ ?_
          case hb => repeat (first | exact uE | refine uN (by omega) ?_ | assumption | exact hd _ (by omega) | fail)
          case hv => rfl
          refine rl0 (gn rfl) rfl rfl (step_fieldAddr (off := 2) rfl (ev_mk rfl) Try.underlying34 rfl F.sz32 rfl) trivial ?_
          refine' rl0 (gn rfl) rfl rfl (step_load_one rfl (ev_mk rfl) F.one32 ?hv) ⟨?hb, trivial⟩ ?_
          case hb => repeat (first | exact uE | refine uN (by omega) ?_ | assumption | exact hd _ (by omega) | fail)
          case hv => rfl
          refine rl0 (gn rfl) rfl rfl (step_callc rfl Try.func19 rfl rfl rfl (put_c f hs o.i o.b ho.1 (by omega)) (by repeat (first | exact .nil | refine .cons ?_ ?_ | exact VLe.refl _ | exact VLe.own_sl _ _ _ | exact VLe.fl_sl _ _ | exact VLe.nil_sl _ | exact vle_int (by omega)))) trivial ?_
          refine rl0 (gn rfl) rfl rfl (step_mv rfl rfl) trivial ?_
          refine rl0 (gn rfl) rfl rfl (step_extract rfl (ev_mk rfl) rfl) trivial ?_
          refine rl0 (gn rfl) rfl rfl (step_extract rfl (ev_mk rfl) rfl) trivial ?_
          refine rl1 (gn rfl) rfl rfl (step_allocc (k := n + 3) (zs := (List.replicate 224 (.int .u8 0))) (cs := List.replicate 224 (.sc (.int .u8 0))) rfl F.zero27 (by first | rfl | simp) (by first | rfl | decide | simp) (by first | rfl | simp)) ⟨by repeat (first | exact uE | refine uN (by omega) ?_ | assumption | exact hd _ (by omega) | fail), trivial⟩ (by omega) ?_
          refine' rls (gn rfl) rfl (step_storeA rfl rfl rfl rfl F.agg27 ?hm ?hl) ⟨?hb, trivial⟩ ?hk ?_
          case hb => repeat (first | exact uE | refine uN (by omega) ?_ | assumption | exact hd _ (by omega) | fail)
          case hm => first | rfl | (simp; done) | (first | exact pgC_len _ | (simp; done) | (rw [pgC_len]; omega) | omega)
          case hl => first | rfl | (simp; done) | (first | exact pgC_len _ | (simp; done) | (rw [pgC_len]; omega) | omega)
          case hk => omega
          refine rl0 (gn rfl) rfl rfl (step_as rfl rfl) trivial ?_
          refine runsL_nil ?_
          refine runs_seq ?_
          refine runs_region ?_
          refine rl0 (gn rfl) rfl rfl (step_mv rfl rfl) trivial ?_
          refine rl0 (gn rfl) rfl rfl (step_fieldAddr (off := 1) rfl (ev_mk rfl) Try.underlying34 rfl F.sz3 rfl) trivial ?_
          refine' rl0 (gn rfl) rfl rfl (step_load_one rfl (ev_mk rfl) F.one3 ?hv) ⟨?hb, trivial⟩ ?_
          case hb => repeat (first | exact uE | refine uN (by omega) ?_ | assumption | exact hd _ (by omega) | fail)
          case hv => rfl
          refine rl0 (gn rfl) rfl rfl (step_fieldAddr (off := 2) rfl (ev_mk rfl) Try.underlying34 rfl F.sz32 rfl) trivial ?_
          refine' rl0 (gn rfl) rfl rfl (step_load_one rfl (ev_mk rfl) F.one32 ?hv) ⟨?hb, trivial⟩ ?_
          case hb => repeat (first | exact uE | refine uN (by omega) ?_ | assumption | exact hd _ (by omega) | fail)
          case hv => rfl
          refine rl0 (gn rfl) rfl rfl (step_callc rfl Try.func24 rfl rfl rfl (rput_c (ab f) (by omega) (by omega) o.i o.b (by omega)) (by repeat (first | exact .nil | refine .cons ?_ ?_ | exact VLe.refl _ | exact VLe.own_sl _ _ _ | exact VLe.fl_sl _ _ | exact VLe.nil_sl _ | exact vle_int (by omega)))) trivial ?_
          refine rl0 (gn rfl) rfl rfl (step_mv rfl rfl) trivial ?_
          refine rl0 (gn rfl) rfl rfl (step_extract rfl (ev_mk rfl) rfl) trivial ?_
          refine rl0 (gn rfl) rfl rfl (step_extract rfl (ev_mk rfl) rfl) trivial ?_
          refine rl0 (gn rfl) rfl rfl (step_as rfl rfl) trivial ?_
          refine rl0 (gn rfl) rfl rfl (step_as rfl rfl) trivial ?_
          refine runsL_nil ?_
          refine runs_seq ?_
          refine runs_region ?_
          refine' rl0 (gn rfl) rfl rfl (step_load_all rfl rfl F.agg27 ?hl) ⟨?hb, trivial⟩ ?_
          case hb => repeat (first | exact uE | refine uN (by omega) ?_ | assumption | exact hd _ (by omega) | fail)
          case hl => first | rfl | (simp; done) | (first | exact pgC_len _ | (simp; done) | (rw [pgC_len]; omega) | omega)
          refine rl0 (gn rfl) rfl rfl (step_mv rfl rfl) trivial ?_
          refine rl0 (gn rfl) rfl rfl (step_mv rfl rfl) trivial ?_
          refine rl0 (gn rfl) rfl rfl (step_mv rfl rfl) trivial ?_
          refine rl_eql (gn rfl) rfl rfl rfl rfl rfl (fun h5 => ?_) (fun h5 => ?_)
          rotate_left
          · exact False.elim (by exact h5 r3_)
          refine' rls (gn rfl) rfl (step_storeA rfl rfl rfl rfl F.agg27 ?hm ?hl) ⟨?hb, trivial⟩ ?hk ?_
          case hb => repeat (first | exact uE | refine uN (by omega) ?_ | assumption | exact hd _ (by omega) | fail)
          case hm => first | rfl | (simp; done) | (first | exact pgC_len _ | (simp; done) | (rw [pgC_len]; omega) | omega)
          case hl => first | rfl | (simp; done) | (first | exact pgC_len _ | (simp; done) | (rw [pgC_len]; omega) | omega)
          case hk => omega
          refine rl0 (gn rfl) rfl rfl (step_as rfl rfl) trivial ?_
          refine rl0 (gn rfl) rfl rfl (step_as rfl rfl) trivial ?_
          refine runsL_nil ?_
          refine runs_ret ?_
          refine ⟨by first | exact .inr rfl | exact .inl rfl, fin_mkg (resc rfl (by repeat (first | exact uE | refine uN (by omega) ?_ | assumption | exact hd _ (by omega) | fail)) F.agg27 (by first | rfl | (simp; done) | (first | exact pgC_len _ | (simp; done) | (rw [pgC_len]; omega) | omega)) (rest rfl (rest rfl res0))) ?_ ?_ ?_ ?_ ?_⟩
          · (repeat' (first | exact VLe.refl _ | exact VLe.own_sl _ _ _ | exact VLe.fl_sl _ _ | exact VLe.nil_sl _ | exact VLe.nil_fl _ | exact VLes.refl _ | exact .nil | refine VLe.tup ?_ | refine VLe.agg ?_ | refine .cons ?_ ?_ | (rw [Int.natCast_add]; exact VLe.refl _) | exact vle_int (by omega) | exact vle_bool (by first | rfl | assumption | (simp_all; done) | fail) | ((rw [hdo_]; exact VLes.refl _)) | ((rw [hdo_, r2_]; exact VLe.refl _)) | fail))
          · first | ((repeat (first | exact trivial | exact bd_pgA _ _ | exact bd_pg _ _ | assumption | omega | (refine bdR_map (fun _ => ?_)) | refine ⟨?_, ?_⟩ | fail)); done) | (repeat (first | exact trivial | assumption | omega | (refine bdR_map (fun _ => ?_)) | (refine bdL_map (fun _ => ?_)) | refine ⟨?_, ?_⟩ | fail))
          · intro k_ hk_; exact ble (by repeat (first | exact rfl | refine uN (by omega) ?_ | assumption | fail))
          · intro p hp; cases hp
          · first | ((repeat (first | exact trivial | exact bd_pgA _ _ | exact bd_pg _ _ | assumption | omega | (refine bdR_map (fun _ => ?_)) | refine ⟨?_, ?_⟩ | fail)); done) | (repeat (first | exact trivial | assumption | omega | (refine bdR_map (fun _ => ?_)) | (refine bdL_map (fun _ => ?_)) | refine ⟨?_, ?_⟩ | fail))
        · skip
          refine rl0 (gn rfl) rfl rfl (step_as rfl rfl) trivial ?_
          refine runsL_nil ?_
          refine runs_cond false (ev_mk rfl) (fun h_ => nomatch h_) (fun _ => ?_)
          refine runs_skip ?_
          refine runs_seq ?_
          refine runs_region ?_
          have hdo_ := do_d (f := f) (o := o) (by omega) (by omega) (by omega)
          have r2_ := ab_pk hs
          refine' rl0 (gn rfl) rfl rfl (step_load_all rfl rfl F.agg27 ?hl) ⟨?hb, trivial⟩ ?_
          case hb => repeat (first | exact uE | refine uN (by omega) ?_ | assumption | exact hd _ (by omega) | fail)
          case hl => first | rfl | (simp; done) | (first | exact pgC_len _ | (simp; done) | (rw [pgC_len]; omega) | omega)
          refine rl0 (gn rfl) rfl rfl (step_callc rfl Try.func16 rfl rfl rfl (pack_c f hs) (by repeat (first | exact .nil | refine .cons ?_ ?_ | exact VLe.refl _ | exact VLe.own_sl _ _ _ | exact VLe.fl_sl _ _ | exact VLe.nil_sl _ | exact vle_int (by omega)))) trivial ?_
          refine rl0 (gn rfl) rfl rfl (step_mv rfl rfl) trivial ?_
          refine' rls (gn rfl) rfl (step_storeA rfl rfl rfl rfl F.agg27 ?hm ?hl) ⟨?hb, trivial⟩ ?hk ?_
          case hb => repeat (first | exact uE | refine uN (by omega) ?_ | assumption | exact hd _ (by omega) | fail)
          case hm => first | rfl | (simp; done) | (first | exact pgC_len _ | (simp; done) | (rw [pgC_len]; omega) | omega)
          case hl => first | rfl | (simp; done) | (first | exact pgC_len _ | (simp; done) | (rw [pgC_len]; omega) | omega)
          case hk => omega
          refine rl0 (gn rfl) rfl rfl (step_as rfl rfl) trivial ?_
          refine rl0 (gn rfl) rfl rfl (step_as rfl rfl) trivial ?_
          refine runsL_nil ?_
          refine runs_ret ?_
          refine ⟨by first | exact .inr rfl | exact .inl rfl, fin_mkg (resc rfl (by repeat (first | exact uE | refine uN (by omega) ?_ | assumption | exact hd _ (by omega) | fail)) F.agg27 (by first | rfl | (simp; done) | (first | exact pgC_len _ | (simp; done) | (rw [pgC_len]; omega) | omega)) (rest rfl (rest rfl res0))) ?_ ?_ ?_ ?_ ?_⟩
          · (repeat' (first | exact VLe.refl _ | exact VLe.own_sl _ _ _ | exact VLe.fl_sl _ _ | exact VLe.nil_sl _ | exact VLe.nil_fl _ | exact VLes.refl _ | exact .nil | refine VLe.tup ?_ | refine VLe.agg ?_ | refine .cons ?_ ?_ | (rw [Int.natCast_add]; exact VLe.refl _) | exact vle_int (by omega) | exact vle_bool (by first | rfl | assumption | (simp_all; done) | fail) | ((rw [hdo_]; exact VLes.refl _)) | ((rw [hdo_, r2_]; exact VLe.refl _)) | fail))
          · first | ((repeat (first | exact trivial | exact bd_pgA _ _ | exact bd_pg _ _ | assumption | omega | (refine bdR_map (fun _ => ?_)) | refine ⟨?_, ?_⟩ | fail)); done) | (repeat (first | exact trivial | assumption | omega | (refine bdR_map (fun _ => ?_)) | (refine bdL_map (fun _ => ?_)) | refine ⟨?_, ?_⟩ | fail))
          · intro k_ hk_; exact ble (by repeat (first | exact rfl | refine uN (by omega) ?_ | assumption | fail))
          · intro p hp; cases hp
          · first | ((repeat (first | exact trivial | exact bd_pgA _ _ | exact bd_pg _ _ | assumption | omega | (refine bdR_map (fun _ => ?_)) | refine ⟨?_, ?_⟩ | fail)); done) | (repeat (first | exact trivial | assumption | omega | (refine bdR_map (fun _ => ?_)) | (refine bdL_map (fun _ => ?_)) | refine ⟨?_, ?_⟩ | fail))
def ligF (l : List Op) : Bool := decide (l.length ≤ 100) && l.all fun o => decide (o.b.length ≤ 300)
theorem oat {l : List Op} {i : Nat} (h : (i : Int) < l.length) : l[i]? = some (at' l (i : Int)) := by
  rw [List.getElem?_eq_getElem (by omega), at_nat _ _ (by omega)]
theorem lig_s {l : List Op} {i : Nat} (h : ((l.take i).all fun o => decide (o.b.length ≤ 300)) = true) (hi : (i : Int) < l.length) (e : ¬ ((at' l (i : Int)).b.length : Int) > 300) : ((l.take (i + 1)).all fun o => decide (o.b.length ≤ 300)) = true := by
  rw [List.take_add_one, oat hi, List.all_append, h]
  simp; omega
theorem lig_f {l : List Op} {i : Nat} (hi : (i : Int) < l.length) (e : ((at' l (i : Int)).b.length : Int) > 300) : false = ligF l := by
  unfold ligF
  rw [show (l.all fun o => decide (o.b.length ≤ 300)) = false from List.all_eq_false.2 ⟨_, List.mem_of_getElem? (oat hi), by simp; omega⟩, Bool.and_false]
theorem lig_t {l : List Op} (h : ((l.take l.length).all fun o => decide (o.b.length ≤ 300)) = true) (h2 : ¬ (l.length : Int) > 100) : true = ligF l := by
  unfold ligF; rw [List.take_length] at h; rw [h, decide_eq_true (by omega)]; rfl
theorem lig_n {l : List Op} (h2 : (l.length : Int) > 100) : false = ligF l := by unfold ligF; rw [decide_eq_false (by omega)]; rfl
theorem lig_len {l : List Op} (h : ligF l = true) : l.length ≤ 100 ∧ ∀ o ∈ l, o.b.length ≤ 300 := by
  unfold ligF at h; rw [Bool.and_eq_true, List.all_eq_true] at h
  exact ⟨of_decide_eq_true h.1, fun o ho => of_decide_eq_true (h.2 o ho)⟩
set_option maxRecDepth 100000 in
set_option maxHeartbeats 4000000 in
theorem light_c (l : List Op) (hl : (l.length : Int) ≤ 9223372036854775807) : Does Try.prog 6 [.sl 3 (l.map opC)] [] [] (.sc (.bool (ligF l))) := by
  refine does_mkg 40 Try.func6 rfl rfl rfl (fun n B bx hd hpre hup hvs hbx hgx => ?_)
  refine runs_seq ?_
  refine runs_region ?_
  refine rl0 (gn rfl) rfl rfl (step_as rfl rfl) trivial ?_
  refine runsL_nil ?_
  refine runs_seq ?_
  refine runs_seq ?_
  refine runs_region ?_
  refine rl0 (gn rfl) rfl rfl (step_mv rfl rfl) trivial ?_
  refine rl0 (gn rfl) rfl rfl (step_len (m := l.length) rfl rfl (ev_mk rfl) (.inl ⟨⟨_, Try.underlying22⟩, .inl ⟨_, _, .inl rfl, List.length_map _⟩⟩)) trivial ?_
  refine rl_gtr (gn rfl) rfl rfl rfl rfl rfl (fun h1 => ?_) (fun h1 => ?_)
  · skip
    have hem_ := lig_n (l := l) (by assumption)
    refine runsL_nil ?_
    refine runs_cond true (ev_mk rfl) (fun _ => ?_) (fun h_ => nomatch h_)
    refine runs_seq ?_
    refine runs_region ?_
    refine rl0 (gn rfl) rfl rfl (step_as rfl rfl) trivial ?_
    refine runsL_nil ?_
    refine runs_ret ?_
    refine ⟨by first | exact .inr rfl | exact .inl rfl, fin_mkg (rest rfl res0) ?_ ?_ ?_ ?_ ?_⟩
    · (repeat' (first | exact VLe.refl _ | exact VLe.own_sl _ _ _ | exact VLe.fl_sl _ _ | exact VLe.nil_sl _ | exact VLe.nil_fl _ | exact VLes.refl _ | exact .nil | refine VLe.tup ?_ | refine VLe.agg ?_ | refine .cons ?_ ?_ | (rw [Int.natCast_add]; exact VLe.refl _) | exact vle_int (by omega) | exact vle_bool (by first | rfl | assumption | (simp_all; done) | fail) | fail))
    · repeat (first | exact trivial | assumption | omega | (refine bdR_map (fun _ => ?_)) | (refine bdL_map (fun _ => ?_)) | refine ⟨?_, ?_⟩ | fail)
    · intro k_ hk_; exact ble (by repeat (first | exact rfl | refine uN (by omega) ?_ | assumption | fail))
    · intro p hp; cases hp
    · repeat (first | exact trivial | assumption | omega | (refine bdR_map (fun _ => ?_)) | (refine bdL_map (fun _ => ?_)) | refine ⟨?_, ?_⟩ | fail)
  · skip
    refine runsL_nil ?_
    refine runs_cond false (ev_mk rfl) (fun h_ => nomatch h_) (fun _ => ?_)
    refine runs_skip ?_
    refine runs_seq ?_
    refine runs_seq ?_
    refine runs_region ?_
    refine rl0 (gn rfl) rfl rfl (step_as rfl rfl) trivial ?_
    refine runsL_nil ?_
    refine runs_block ?_
    refine runs_loop (fun (ri_ : Nat) (st_ : Go.Vm.S) => ∃ (i : Nat) (m0 : Nat) (b0 : Nat → Box), (st_ = ⟨mk [(0, .sl 3 (l.map opC)), (2, .sc (.bool false)), (3, .sc (.int .i64 (i : Int)))], m0, b0⟩) ∧ (ri_ = 1 + (l.length - i)) ∧ (n + 0 ≤ m0) ∧ (∀ k_, k_ < n → b0 k_ = bx k_) ∧ (i ≤ l.length) ∧ (((l.take i).all fun o => decide (o.b.length ≤ 300)) = true)) (1 + (l.length - 0)) ⟨_, sle ?_ (Nat.le_refl _), 0, _, _, rfl, rfl, ?_⟩ ?_
    · (repeat' (first | exact trivial | refine ⟨⟨_, rfl, ?_⟩, ?_⟩ | fail)); all_goals (repeat' (first | exact VLe.refl _ | exact VLe.own_sl _ _ _ | exact VLe.fl_sl _ _ | exact VLe.nil_sl _ | exact VLe.nil_fl _ | exact VLes.refl _ | exact .nil | refine VLe.tup ?_ | refine VLe.agg ?_ | refine .cons ?_ ?_ | (rw [Int.natCast_add]; exact VLe.refl _) | exact vle_int (by omega) | exact vle_bool (by first | rfl | assumption | (simp_all; done) | fail) | fail))
    · exact ⟨by omega, (fun k_ hk_ => by repeat (first | exact rfl | refine uN (by omega) ?_ | assumption | fail)), by omega, by simp⟩
    · rintro _ _ ⟨i, m0, b0, rfl, rfl, hm0, hf0, hF0_0, hF0_1⟩
      refine runs_know (fun hd0 => ?_)
      refine runs_bump 20 ?_
      simp only at hd0
      refine runs_seq ?_
      refine runs_seq ?_
      refine runs_region ?_
      refine rl0 (gn rfl) rfl rfl (step_mv rfl rfl) trivial ?_
      refine rl0 (gn rfl) rfl rfl (step_mv rfl rfl) trivial ?_
      refine rl0 (gn rfl) rfl rfl (step_len (m := l.length) rfl rfl (ev_mk rfl) (.inl ⟨⟨_, Try.underlying22⟩, .inl ⟨_, _, .inl rfl, List.length_map _⟩⟩)) trivial ?_
      refine rl_lss (gn rfl) rfl rfl rfl rfl rfl (fun h2 => ?_) (fun h2 => ?_)
      · skip
        refine runsL_nil ?_
        refine runs_cond true (ev_mk rfl) (fun _ => ?_) (fun h_ => nomatch h_)
        refine runs_skip ?_
        refine runs_seq ?_
        refine runs_block ?_
        refine runs_seq ?_
        refine runs_region ?_
        refine rl0 (gn rfl) rfl rfl (step_mv rfl rfl) trivial ?_
        refine rl0 (gn rfl) rfl rfl (step_mv rfl rfl) trivial ?_
        refine' rl0 (gn rfl) rfl rfl (step_index rfl (ev_mk rfl) (.inl rfl) (ev_mk rfl) Try.underlying22 F.sz34 (by omega) ?hr) trivial ?_
        case hr => exact map_at _ _ _ (by omega) (by omega)
        refine rl0 (gn rfl) rfl rfl (step_fieldAddr_ro (off := 2) rfl (ev_mk rfl) Try.underlying34 rfl F.sz32 rfl rfl) trivial ?_
        refine rl0 (gn rfl) rfl rfl (step_load_ro rfl (ev_mk rfl) F.one32 rfl) trivial ?_
        refine rl0 (gn rfl) rfl rfl (step_len (m := (at' l (i : Int)).b.length) rfl rfl (ev_mk rfl) (.inl ⟨⟨_, Try.underlying32⟩, .inl ⟨_, _, .inl rfl, bytesV_len _⟩⟩)) trivial ?_
        refine rl_gtr (gn rfl) rfl rfl rfl rfl rfl (fun h3 => ?_) (fun h3 => ?_)
        · skip
          have hem_ := lig_f (l := l) (i := i) (by omega) (by assumption)
          refine runsL_nil ?_
          refine runs_cond true (ev_mk rfl) (fun _ => ?_) (fun h_ => nomatch h_)
          refine runs_seq ?_
          refine runs_region ?_
          refine rl0 (gn rfl) rfl rfl (step_as rfl rfl) trivial ?_
          refine runsL_nil ?_
          refine runs_ret ?_
          refine ⟨by first | exact .inr rfl | exact .inl rfl, fin_mkg (rest rfl res0) ?_ ?_ ?_ ?_ ?_⟩
          · (repeat' (first | exact VLe.refl _ | exact VLe.own_sl _ _ _ | exact VLe.fl_sl _ _ | exact VLe.nil_sl _ | exact VLe.nil_fl _ | exact VLes.refl _ | exact .nil | refine VLe.tup ?_ | refine VLe.agg ?_ | refine .cons ?_ ?_ | (rw [Int.natCast_add]; exact VLe.refl _) | exact vle_int (by omega) | exact vle_bool (by first | rfl | assumption | (simp_all; done) | fail) | fail))
          · repeat (first | exact trivial | assumption | omega | (refine bdR_map (fun _ => ?_)) | (refine bdL_map (fun _ => ?_)) | refine ⟨?_, ?_⟩ | fail)
          · intro k_ hk_; exact ble (by repeat (first | exact rfl | refine uN (by omega) ?_ | assumption | exact hf0 _ (by omega) | fail))
          · intro p hp; cases hp
          · repeat (first | exact trivial | assumption | omega | (refine bdR_map (fun _ => ?_)) | (refine bdL_map (fun _ => ?_)) | refine ⟨?_, ?_⟩ | fail)
        · skip
          have hno_ := lig_s hF0_1 (by omega) (by assumption)
          refine runsL_nil ?_
          refine runs_cond false (ev_mk rfl) (fun h_ => nomatch h_) (fun _ => ?_)
          refine runs_skip ?_
          refine runs_region ?_
          refine rl0 (gn rfl) rfl rfl (step_mv rfl rfl) trivial ?_
          refine rl0 (gn rfl) rfl rfl (step_add rfl (ev_mk rfl) (ev_mk rfl) (w64 (by omega))) trivial ?_
          refine rl0 (gn rfl) rfl rfl (step_as rfl rfl) trivial ?_
          refine runsL_nil ?_
          refine ⟨_, _, ?_, sle ?_ (Nat.le_refl _), (i + 1), _, _, rfl, rfl, by omega, (fun k_ hk_ => by repeat (first | exact hf0 k_ hk_ | refine uN (by first | assumption | omega) ?_ | fail)), by omega, hno_⟩
          · omega
          · (repeat' (first | exact trivial | refine ⟨⟨_, rfl, ?_⟩, ?_⟩ | fail)); all_goals (repeat' (first | exact VLe.refl _ | exact VLe.own_sl _ _ _ | exact VLe.fl_sl _ _ | exact VLe.nil_sl _ | exact VLe.nil_fl _ | exact VLes.refl _ | exact .nil | refine VLe.tup ?_ | refine VLe.agg ?_ | refine .cons ?_ ?_ | (rw [Int.natCast_add]; exact VLe.refl _) | exact vle_int (by omega) | exact vle_bool (by first | rfl | assumption | (simp_all; done) | fail) | fail))
      · skip
        obtain rfl : i = l.length := by omega
        have hem_ := lig_t hF0_1 (by assumption)
        refine runsL_nil ?_
        refine runs_cond false (ev_mk rfl) (fun h_ => nomatch h_) (fun _ => ?_)
        refine runs_exit ?_
        refine runs_seq ?_
        refine runs_region ?_
        refine rl0 (gn rfl) rfl rfl (step_as rfl rfl) trivial ?_
        refine runsL_nil ?_
        refine runs_ret ?_
        refine ⟨by first | exact .inr rfl | exact .inl rfl, fin_mkg (rest rfl res0) ?_ ?_ ?_ ?_ ?_⟩
        · (repeat' (first | exact VLe.refl _ | exact VLe.own_sl _ _ _ | exact VLe.fl_sl _ _ | exact VLe.nil_sl _ | exact VLe.nil_fl _ | exact VLes.refl _ | exact .nil | refine VLe.tup ?_ | refine VLe.agg ?_ | refine .cons ?_ ?_ | (rw [Int.natCast_add]; exact VLe.refl _) | exact vle_int (by omega) | exact vle_bool (by first | rfl | assumption | (simp_all; done) | fail) | fail))
        · repeat (first | exact trivial | assumption | omega | (refine bdR_map (fun _ => ?_)) | (refine bdL_map (fun _ => ?_)) | refine ⟨?_, ?_⟩ | fail)
        · intro k_ hk_; exact ble (by repeat (first | exact rfl | refine uN (by omega) ?_ | assumption | exact hf0 _ (by omega) | fail))
        · intro p hp; cases hp
        · repeat (first | exact trivial | assumption | omega | (refine bdR_map (fun _ => ?_)) | (refine bdL_map (fun _ => ?_)) | refine ⟨?_, ?_⟩ | fail)
end Go.Proofs.Ytjmfdddeoadpaaa
