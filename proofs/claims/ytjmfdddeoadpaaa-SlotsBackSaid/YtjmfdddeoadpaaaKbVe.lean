/- Walks by the logic of values. -/
import Derived.Test.YtjmfdddeoadpaaaKbVmT
import Derived.Test.YtjmfdddeoadpaaaKbVmP
import Derived.Test.YtjmfdddeoadpaaaKbVmW
import Derived.Test.YtjmfdddeoadpaaaKbVmV
import Derived.Test.YtjmfdddeoadpaaaKbVa
import Derived.Test.YtjmfdddeoadpaaaKbVb
namespace Go.Proofs.Ytjmfdddeoadpaaa
open Go.Vm
set_option linter.unusedVariables false
set_option linter.unusedSimpArgs false
def mtC (m : Nat → Nat) : List V := (List.range 224).map fun k => .sc (.int .i64 (m k : Int))
theorem mtC_len (f : Nat → Nat) : (mtC f).length = 224 := by simp [mtC]
theorem bd_mt (n : Nat) (f : Nat → Nat) : bdL n (mtC f) := bdL_all fun v hv => by obtain ⟨k, _, rfl⟩ := List.mem_map.1 hv; trivial
theorem mt_q {f : Nat → Nat} {q k : Nat} (h : q = k) (hk : k < 224) : (mtC f)[q]? = some (.sc (.int .i64 (f k : Int))) := by
  subst h; unfold mtC; rw [List.getElem?_map, List.getElem?_range hk]; rfl
theorem mt_ext {f g : Nat → Nat} (h : ∀ k, k < 224 → f k = g k) : mtC f = mtC g := by
  unfold mtC
  exact List.map_congr_left fun k hk => by rw [h k (List.mem_range.1 hk)]
theorem mt_of {xs : List V} {f : Nat → Nat} (hl : xs.length = 224) (h : ∀ k, k < 224 → xs[k]? = some (.sc (.int .i64 (f k : Int)))) : xs = mtC f := by
  refine List.ext_getElem? fun k => ?_
  rcases Nat.lt_or_ge k 224 with hk | hk
  · rw [h k hk, mt_q rfl hk]
  · rw [List.getElem?_eq_none (by omega), List.getElem?_eq_none (by rw [mtC_len]; exact hk)]
theorem mt_set {f : Nat → Nat} {q k v : Nat} (h : q = k) : (mtC f).set q (.sc (.int .i64 (v : Int))) = mtC (upN f k v) := by
  subst h
  refine mt_of (by rw [List.length_set, mtC_len]) fun j hj => ?_
  unfold upN
  by_cases hq : j = q
  · subst hq; rw [if_pos rfl, List.getElem?_set_self (by rw [mtC_len]; exact hj)]
  · rw [if_neg hq, List.getElem?_set_ne (fun e => hq e.symm), mt_q rfl hj]
theorem mt_zero (f : Pf) : List.replicate 224 (V.sc (.int .i64 0)) = mtC (cnt f 0) := mt_of List.length_replicate fun k hk => by rw [List.getElem?_replicate, if_pos hk]; rfl
attribute [local irreducible] pgC mtC
theorem pg_fill (f : Pf) : fillV (fun (i : Nat) => ([(0, 224)] : List (Nat × Nat))[i]?) ((List.replicate 224 (Value.int .u8 0)).map V.sc) [(0, V.agg (pgC f))] = some (pgC f) := by
  have hl := pgC_len f
  have e1 : setSeg ((List.replicate 224 (Value.int .u8 0)).map V.sc) 0 (pgC f) = pgC f := setSeg_all (by rw [hl, List.length_map, List.length_replicate])
  simp only [fillV, List.getElem?_cons_zero, V.cs, V.stor]
  have h2 : ((List.replicate 224 (Value.int .u8 0)).map V.sc).length = 224 := by rw [List.length_map, List.length_replicate]
  rw [if_pos ⟨hl, by omega, by first | rfl | trivial⟩, e1]
def mid (f : Pf) (i c : Nat) : Nat → Nat := fun q => cnt f i q + (if 0 < sA f i ∧ sA f i ≤ q ∧ q < c then 1 else 0)
theorem mid_0 (f : Pf) (i : Nat) : mtC (cnt f i) = mtC (mid f i (sA f i)) := mt_ext fun q _ => by unfold mid; rw [if_neg (by omega)]; rfl
theorem mid_s {f : Pf} {i c : Nat} (hp : 0 < sA f i) (hc : sA f i ≤ c) : mtC (upN (mid f i c) c (mid f i c c + 1)) = mtC (mid f i (c + 1)) := mt_ext fun q _ => by
  unfold upN mid
  by_cases h : q = c
  · subst h; rw [if_pos rfl, if_neg (by omega), if_pos (by omega)]
  · rw [if_neg h]
    by_cases h2 : 0 < sA f i ∧ sA f i ≤ q ∧ q < c
    · rw [if_pos h2, if_pos (by omega)]
    · rw [if_neg h2, if_neg (by omega)]
theorem mid_e {f : Pf} {i c : Nat} (h : sA f i = 0 ∨ c = sA f i + sN f i) : mtC (mid f i c) = mtC (cnt f (i + 1)) := mt_ext fun q _ => by
  unfold mid
  simp only [cnt]
  by_cases h2 : seg f i q
  · rw [if_pos h2]; unfold seg at h2; rw [if_pos (by omega)]
  · rw [if_neg h2]; unfold seg at h2; rw [if_neg (by omega)]
theorem mid_c (f : Pf) (i c : Nat) : mid f i c c = cnt f i c := by unfold mid; rw [if_neg (by omega)]; rfl
theorem cnt_le (f : Pf) : ∀ i k, cnt f i k ≤ i
  | 0, _ => Nat.le_refl _
  | i + 1, k => by have := cnt_le f i k; simp only [cnt]; split <;> omega
theorem okS_iff {f : Pf} {i : Nat} : okS f i = true ↔ ((sA f i = 0 → sN f i = 0) ∧ (0 < sA f i → f 1 ≤ sA f i ∧ sA f i + sN f i ≤ 224)) := by
  unfold okS
  simp only [Bool.not_eq_true', Bool.or_eq_false_iff, Bool.and_eq_false_iff, decide_eq_false_iff_not]
  omega
theorem okK_iff {f : Pf} {k : Nat} : okK f k = true ↔ (cnt f (f 0) k ≤ 1 ∧ (cnt f (f 0) k = 0 → f k = 0)) := by
  unfold okK
  simp only [Bool.not_eq_true', Bool.or_eq_false_iff, Bool.and_eq_false_iff, decide_eq_false_iff_not, Bool.not_eq_false', decide_eq_true_eq]
  omega
theorem snd_f0 {f : Pf} (h : ¬ (f 0 ≤ 32 ∧ 2 + 2 * f 0 ≤ f 1 ∧ f 1 ≤ 224)) : false = sndF f := by unfold sndF; rw [decide_eq_false h]; rfl
theorem snd_f1 {f : Pf} {i : Nat} (hi : i < f 0) (h : ¬ ((sA f i = 0 → sN f i = 0) ∧ (0 < sA f i → f 1 ≤ sA f i ∧ sA f i + sN f i ≤ 224))) : false = sndF f := by
  unfold sndF
  rw [show (List.range (f 0)).all (okS f) = false from List.all_eq_false.2 ⟨i, List.mem_range.2 hi, fun q => h (okS_iff.1 q)⟩, Bool.and_false, Bool.false_and]
theorem snd_f2 {f : Pf} {k : Nat} (h1 : 2 + 2 * f 0 ≤ k) (h2 : k < 224) (h : ¬ (cnt f (f 0) k ≤ 1 ∧ (cnt f (f 0) k = 0 → f k = 0))) : false = sndF f := by
  unfold sndF
  rw [show (List.range 224).all (fun k => decide (k < 2 + 2 * f 0) || okK f k) = false from List.all_eq_false.2 ⟨k, List.mem_range.2 h2, fun q => by rw [decide_eq_false (by omega), Bool.false_or] at q; exact h (okK_iff.1 q)⟩, Bool.and_false]
theorem snd_t {f : Pf} (h0 : f 0 ≤ 32 ∧ 2 + 2 * f 0 ≤ f 1 ∧ f 1 ≤ 224) (h1 : ∀ j, j < f 0 → okS f j = true) (h2 : ∀ q, 2 + 2 * f 0 ≤ q → q < 224 → okK f q = true) : true = sndF f := by
  unfold sndF
  rw [decide_eq_true h0, Bool.true_and, show (List.range (f 0)).all (okS f) = true from List.all_eq_true.2 fun j hj => h1 j (List.mem_range.1 hj), Bool.true_and]
  exact (List.all_eq_true.2 fun k hk => by
    rcases Nat.lt_or_ge k (2 + 2 * f 0) with q | q
    · rw [decide_eq_true q]; rfl
    · rw [h2 k q (List.mem_range.1 hk), Bool.or_true]).symm
def ofP (f : Pf) : Pf := if sndF f = true then f else newF
set_option maxRecDepth 100000 in
set_option maxHeartbeats 4000000 in
theorem sound_c (f : Pf) (hb : ∀ k, f k < 256) : Does Try.prog 12 [.agg (pgC f)] [] [] (.sc (.bool (sndF f))) := by
  refine does_mkg 40 Try.func12 rfl rfl rfl (fun n B bx hd hpre hup hvs hbx hgx => ?_)
  have hb0_ := hb 0
  have hb1_ := hb 1
  refine runs_seq ?_
  refine runs_region ?_
  refine rl1 (gn rfl) rfl rfl (step_box_agg (k := n + 0) rfl rfl) ⟨by repeat (first | exact uE | refine uN (by omega) ?_ | assumption | exact hd _ (by omega) | fail), trivial⟩ (by omega) ?_
  refine rl0 (gn rfl) rfl rfl (step_as rfl rfl) trivial ?_
  refine runsL_nil ?_
  refine runs_seq ?_
  refine runs_region ?_
  refine' rl0 (gn rfl) rfl rfl (step_load_all rfl rfl F.agg25 ?hl) ⟨?hb, trivial⟩ ?_
  case hb => repeat (first | exact uE | refine uN (by omega) ?_ | assumption | exact hd _ (by omega) | fail)
  case hl => first | rfl | (simp; done) | (first | exact pgC_len _ | exact mtC_len _ | (simp; done) | (rw [pgC_len]; omega) | (rw [mtC_len]; omega) | omega)
  refine rl0 (gn rfl) rfl rfl (step_build (ss := [224]) (zs := (List.replicate 224 (.int .u8 0))) (cs := pgC f) rfl Try.underlying27 (by kernel_rfl) F.zero27 rfl rfl (pg_fill f)) trivial ?_
  refine rl1 (gn rfl) rfl rfl (step_allocc (k := n + 1) (zs := (List.replicate 224 (.int .u8 0))) (cs := List.replicate 224 (.sc (.int .u8 0))) rfl F.zero27 (by first | rfl | simp) (by first | rfl | decide | simp) (by first | rfl | simp)) ⟨by repeat (first | exact uE | refine uN (by omega) ?_ | assumption | exact hd _ (by omega) | fail), trivial⟩ (by omega) ?_
  refine' rls (gn rfl) rfl (step_storeA rfl rfl rfl rfl F.agg27 ?hm ?hl) ⟨?hb, trivial⟩ ?hk ?_
  case hb => repeat (first | exact uE | refine uN (by omega) ?_ | assumption | exact hd _ (by omega) | fail)
  case hm => first | rfl | (simp; done) | (first | exact pgC_len _ | exact mtC_len _ | (simp; done) | (rw [pgC_len]; omega) | (rw [mtC_len]; omega) | omega)
  case hl => first | rfl | (simp; done) | (first | exact pgC_len _ | exact mtC_len _ | (simp; done) | (rw [pgC_len]; omega) | (rw [mtC_len]; omega) | omega)
  case hk => omega
  refine runsL_nil ?_
  refine runs_seq ?_
  refine runs_seq ?_
  refine runs_draw (by kernel_rfl) (by kernel_rfl) (by kernel_rfl) ?_
  refine' dl0 (gn rfl) rfl rfl (step_load_all rfl rfl F.agg27 ?hl) ⟨?hb, trivial⟩ ?_
  case hb => repeat (first | exact uE | refine uN (by omega) ?_ | assumption | exact hd _ (by omega) | fail)
  case hl => first | rfl | (simp; done) | (first | exact pgC_len _ | exact mtC_len _ | (simp; done) | (rw [pgC_len]; omega) | (rw [mtC_len]; omega) | omega)
  refine dl0 (gn rfl) rfl rfl (step_callc rfl Try.func13 rfl rfl rfl (len_c f hb) (by repeat (first | exact .nil | refine .cons ?_ ?_ | exact VLe.refl _ | exact VLe.own_sl _ _ _ | exact VLe.fl_sl _ _ | exact VLe.nil_sl _ | exact vle_int (by omega)))) trivial ?_
  refine dl_gtr (gn rfl) rfl rfl rfl rfl rfl (fun h1 => ?_) (fun h1 => ?_)
  · skip
    refine dl0 (gn rfl) rfl rfl (step_mv rfl rfl) trivial ?_
    refine dlk rfl rfl rfl rfl rfl (ngb rfl rfl) rfl rfl ?_
    refine dlk rfl rfl rfl rfl rfl (ngb rfl rfl) rfl rfl ?_
    refine dlk rfl rfl rfl rfl rfl (ngb rfl rfl) rfl rfl ?_
    refine dlk rfl rfl rfl rfl rfl (ngb rfl rfl) rfl rfl ?_
    refine dlk rfl rfl rfl rfl rfl (ngb rfl rfl) rfl rfl ?_
    refine dlk rfl rfl rfl rfl rfl (ngb rfl rfl) rfl rfl ?_
    refine dlk rfl rfl rfl rfl rfl (ngb rfl rfl) rfl rfl ?_
    refine dl0 (gn rfl) rfl rfl (step_pick rfl (ev_mk rfl) (ev_mk rfl)) trivial ?_
    refine dl0 (gn rfl) rfl rfl (step_mv rfl rfl) trivial ?_
    refine dlk rfl rfl rfl rfl rfl (ngb rfl rfl) rfl rfl ?_
    refine dlk rfl rfl rfl rfl rfl (ngb rfl rfl) rfl rfl ?_
    refine dlk rfl rfl rfl rfl rfl (ngb rfl rfl) rfl rfl ?_
    refine dl0 (gn rfl) rfl rfl (step_pick rfl (ev_mk rfl) (ev_mk rfl)) trivial ?_
    refine dlnil ?_ ?_
    · repeat' (first | exact trivial | exact .inr (ap0 _ _ _ _) | exact .inr (ap2 _ _ _ _) | exact .inr (ap3 _ _ _ _) | exact .inr ⟨by first | (simp; done) | (simp; omega), by first | (simp; done) | (simp; omega)⟩ | exact .inl (by kernel_rfl) | refine ⟨?_, ?_⟩ | fail)
    refine runs_cond true (ev_mk rfl) (fun _ => ?_) (fun h_ => nomatch h_)
    refine runs_seq ?_
    refine runs_region ?_
    have hem_ := snd_f0 (f := f) (by omega)
    refine rl0 (gn rfl) rfl rfl (step_as rfl rfl) trivial ?_
    refine runsL_nil ?_
    refine runs_ret ?_
    refine ⟨by first | exact .inr rfl | exact .inl rfl, fin_mkg (rest rfl res0) ?_ ?_ ?_ ?_ ?_⟩
    · (repeat' (first | exact VLe.refl _ | exact VLe.own_sl _ _ _ | exact VLe.fl_sl _ _ | exact VLe.nil_sl _ | exact VLe.nil_fl _ | exact VLes.refl _ | exact .nil | refine VLe.tup ?_ | refine VLe.agg ?_ | refine .cons ?_ ?_ | (rw [Int.natCast_add]; exact VLe.refl _) | exact vle_int (by omega) | exact vle_bool (by first | rfl | assumption | (simp_all; done) | fail) | fail))
    · first | ((repeat (first | exact trivial | exact bd_pgA _ _ | exact bd_pg _ _ | exact bd_mt _ _ | assumption | omega | refine ⟨?_, ?_⟩ | fail)); done) | (repeat (first | exact trivial | assumption | omega | (refine bdR_map (fun _ => ?_)) | (refine bdL_map (fun _ => ?_)) | refine ⟨?_, ?_⟩ | fail))
    · intro k_ hk_; exact ble (by repeat (first | exact rfl | refine uN (by omega) ?_ | assumption | fail))
    · intro p hp; cases hp
    · first | ((repeat (first | exact trivial | exact bd_pgA _ _ | exact bd_pg _ _ | exact bd_mt _ _ | assumption | omega | refine ⟨?_, ?_⟩ | fail)); done) | (repeat (first | exact trivial | assumption | omega | (refine bdR_map (fun _ => ?_)) | (refine bdL_map (fun _ => ?_)) | refine ⟨?_, ?_⟩ | fail))
  · skip
    refine dl0 (gn rfl) rfl rfl (step_mv rfl rfl) trivial ?_
    refine' dl0 (gy rfl rfl rfl rfl rfl rfl) rfl rfl (step_load_all rfl rfl F.agg27 ?hl) ⟨?hb, trivial⟩ ?_
    case hb => repeat (first | exact uE | refine uN (by omega) ?_ | assumption | exact hd _ (by omega) | fail)
    case hl => first | rfl | (simp; done) | (first | exact pgC_len _ | exact mtC_len _ | (simp; done) | (rw [pgC_len]; omega) | (rw [mtC_len]; omega) | omega)
    refine dl0 (gy rfl rfl rfl rfl rfl rfl) rfl rfl (step_callc rfl Try.func28 rfl rfl rfl (low_c f hb) (by repeat (first | exact .nil | refine .cons ?_ ?_ | exact VLe.refl _ | exact VLe.own_sl _ _ _ | exact VLe.fl_sl _ _ | exact VLe.nil_sl _ | exact vle_int (by omega)))) trivial ?_
    refine' dl0 (gy rfl rfl rfl rfl rfl rfl) rfl rfl (step_load_all rfl rfl F.agg27 ?hl) ⟨?hb, trivial⟩ ?_
    case hb => repeat (first | exact uE | refine uN (by omega) ?_ | assumption | exact hd _ (by omega) | fail)
    case hl => first | rfl | (simp; done) | (first | exact pgC_len _ | exact mtC_len _ | (simp; done) | (rw [pgC_len]; omega) | (rw [mtC_len]; omega) | omega)
    refine dl0 (gy rfl rfl rfl rfl rfl rfl) rfl rfl (step_callc rfl Try.func13 rfl rfl rfl (len_c f hb) (by repeat (first | exact .nil | refine .cons ?_ ?_ | exact VLe.refl _ | exact VLe.own_sl _ _ _ | exact VLe.fl_sl _ _ | exact VLe.nil_sl _ | exact vle_int (by omega)))) trivial ?_
    refine dl0 (gy rfl rfl rfl rfl rfl rfl) rfl rfl (step_mul rfl (ev_mk rfl) (ev_mk rfl) (w64 (by omega))) trivial ?_
    refine dl0 (gy rfl rfl rfl rfl rfl rfl) rfl rfl (step_add rfl (ev_mk rfl) (ev_mk rfl) (w64 (by omega))) trivial ?_
    refine dl_lss (gy rfl rfl rfl rfl rfl rfl) rfl rfl rfl rfl rfl (fun h2 => ?_) (fun h2 => ?_)
    · skip
      refine dl0 (gn rfl) rfl rfl (step_pick rfl (ev_mk rfl) (ev_mk rfl)) trivial ?_
      refine dl0 (gn rfl) rfl rfl (step_mv rfl rfl) trivial ?_
      refine dlk rfl rfl rfl rfl rfl (ngb rfl rfl) rfl rfl ?_
      refine dlk rfl rfl rfl rfl rfl (ngb rfl rfl) rfl rfl ?_
      refine dlk rfl rfl rfl rfl rfl (ngb rfl rfl) rfl rfl ?_
      refine dl0 (gn rfl) rfl rfl (step_pick rfl (ev_mk rfl) (ev_mk rfl)) trivial ?_
      refine dlnil ?_ ?_
      · repeat' (first | exact trivial | exact .inr (ap0 _ _ _ _) | exact .inr (ap2 _ _ _ _) | exact .inr (ap3 _ _ _ _) | exact .inr ⟨by first | (simp; done) | (simp; omega), by first | (simp; done) | (simp; omega)⟩ | exact .inl (by kernel_rfl) | refine ⟨?_, ?_⟩ | fail)
      refine runs_cond true (ev_mk rfl) (fun _ => ?_) (fun h_ => nomatch h_)
      refine runs_seq ?_
      refine runs_region ?_
      have hem_ := snd_f0 (f := f) (by omega)
      refine rl0 (gn rfl) rfl rfl (step_as rfl rfl) trivial ?_
      refine runsL_nil ?_
      refine runs_ret ?_
      refine ⟨by first | exact .inr rfl | exact .inl rfl, fin_mkg (rest rfl res0) ?_ ?_ ?_ ?_ ?_⟩
      · (repeat' (first | exact VLe.refl _ | exact VLe.own_sl _ _ _ | exact VLe.fl_sl _ _ | exact VLe.nil_sl _ | exact VLe.nil_fl _ | exact VLes.refl _ | exact .nil | refine VLe.tup ?_ | refine VLe.agg ?_ | refine .cons ?_ ?_ | (rw [Int.natCast_add]; exact VLe.refl _) | exact vle_int (by omega) | exact vle_bool (by first | rfl | assumption | (simp_all; done) | fail) | fail))
      · first | ((repeat (first | exact trivial | exact bd_pgA _ _ | exact bd_pg _ _ | exact bd_mt _ _ | assumption | omega | refine ⟨?_, ?_⟩ | fail)); done) | (repeat (first | exact trivial | assumption | omega | (refine bdR_map (fun _ => ?_)) | (refine bdL_map (fun _ => ?_)) | refine ⟨?_, ?_⟩ | fail))
      · intro k_ hk_; exact ble (by repeat (first | exact rfl | refine uN (by omega) ?_ | assumption | fail))
      · intro p hp; cases hp
      · first | ((repeat (first | exact trivial | exact bd_pgA _ _ | exact bd_pg _ _ | exact bd_mt _ _ | assumption | omega | refine ⟨?_, ?_⟩ | fail)); done) | (repeat (first | exact trivial | assumption | omega | (refine bdR_map (fun _ => ?_)) | (refine bdL_map (fun _ => ?_)) | refine ⟨?_, ?_⟩ | fail))
    · skip
      refine dl0 (gn rfl) rfl rfl (step_pick rfl (ev_mk rfl) (ev_mk rfl)) trivial ?_
      refine dl0 (gn rfl) rfl rfl (step_mv rfl rfl) trivial ?_
      refine' dl0 (gy rfl rfl rfl rfl rfl rfl) rfl rfl (step_load_all rfl rfl F.agg27 ?hl) ⟨?hb, trivial⟩ ?_
      case hb => repeat (first | exact uE | refine uN (by omega) ?_ | assumption | exact hd _ (by omega) | fail)
      case hl => first | rfl | (simp; done) | (first | exact pgC_len _ | exact mtC_len _ | (simp; done) | (rw [pgC_len]; omega) | (rw [mtC_len]; omega) | omega)
      refine dl0 (gy rfl rfl rfl rfl rfl rfl) rfl rfl (step_callc rfl Try.func28 rfl rfl rfl (low_c f hb) (by repeat (first | exact .nil | refine .cons ?_ ?_ | exact VLe.refl _ | exact VLe.own_sl _ _ _ | exact VLe.fl_sl _ _ | exact VLe.nil_sl _ | exact vle_int (by omega)))) trivial ?_
      refine dl_gtr (gy rfl rfl rfl rfl rfl rfl) rfl rfl rfl rfl rfl (fun h3 => ?_) (fun h3 => ?_)
      · skip
        refine dl0 (gn rfl) rfl rfl (step_pick rfl (ev_mk rfl) (ev_mk rfl)) trivial ?_
        refine dlnil ?_ ?_
        · repeat' (first | exact trivial | exact .inr (ap0 _ _ _ _) | exact .inr (ap2 _ _ _ _) | exact .inr (ap3 _ _ _ _) | exact .inr ⟨by first | (simp; done) | (simp; omega), by first | (simp; done) | (simp; omega)⟩ | exact .inl (by kernel_rfl) | refine ⟨?_, ?_⟩ | fail)
        refine runs_cond true (ev_mk rfl) (fun _ => ?_) (fun h_ => nomatch h_)
        refine runs_seq ?_
        refine runs_region ?_
        have hem_ := snd_f0 (f := f) (by omega)
        refine rl0 (gn rfl) rfl rfl (step_as rfl rfl) trivial ?_
        refine runsL_nil ?_
        refine runs_ret ?_
        refine ⟨by first | exact .inr rfl | exact .inl rfl, fin_mkg (rest rfl res0) ?_ ?_ ?_ ?_ ?_⟩
        · (repeat' (first | exact VLe.refl _ | exact VLe.own_sl _ _ _ | exact VLe.fl_sl _ _ | exact VLe.nil_sl _ | exact VLe.nil_fl _ | exact VLes.refl _ | exact .nil | refine VLe.tup ?_ | refine VLe.agg ?_ | refine .cons ?_ ?_ | (rw [Int.natCast_add]; exact VLe.refl _) | exact vle_int (by omega) | exact vle_bool (by first | rfl | assumption | (simp_all; done) | fail) | fail))
        · first | ((repeat (first | exact trivial | exact bd_pgA _ _ | exact bd_pg _ _ | exact bd_mt _ _ | assumption | omega | refine ⟨?_, ?_⟩ | fail)); done) | (repeat (first | exact trivial | assumption | omega | (refine bdR_map (fun _ => ?_)) | (refine bdL_map (fun _ => ?_)) | refine ⟨?_, ?_⟩ | fail))
        · intro k_ hk_; exact ble (by repeat (first | exact rfl | refine uN (by omega) ?_ | assumption | fail))
        · intro p hp; cases hp
        · first | ((repeat (first | exact trivial | exact bd_pgA _ _ | exact bd_pg _ _ | exact bd_mt _ _ | assumption | omega | refine ⟨?_, ?_⟩ | fail)); done) | (repeat (first | exact trivial | assumption | omega | (refine bdR_map (fun _ => ?_)) | (refine bdL_map (fun _ => ?_)) | refine ⟨?_, ?_⟩ | fail))
      · skip
        refine dl0 (gn rfl) rfl rfl (step_pick rfl (ev_mk rfl) (ev_mk rfl)) trivial ?_
        refine dlnil ?_ ?_
        · repeat' (first | exact trivial | exact .inr (ap0 _ _ _ _) | exact .inr (ap2 _ _ _ _) | exact .inr (ap3 _ _ _ _) | exact .inr ⟨by first | (simp; done) | (simp; omega), by first | (simp; done) | (simp; omega)⟩ | exact .inl (by kernel_rfl) | refine ⟨?_, ?_⟩ | fail)
        refine runs_cond false (ev_mk rfl) (fun h_ => nomatch h_) (fun _ => ?_)
        refine runs_skip ?_
        refine runs_seq ?_
        refine runs_region ?_
        refine rl1 (gn rfl) rfl rfl (step_allocc (k := n + 2) (zs := (List.replicate 224 (.int .i64 0))) (cs := List.replicate 224 (.sc (.int .i64 0))) rfl F.zero64 (by first | rfl | simp) (by first | rfl | decide | simp) (by first | rfl | simp)) ⟨by repeat (first | exact uE | refine uN (by omega) ?_ | assumption | exact hd _ (by omega) | fail), trivial⟩ (by omega) ?_
        refine runsL_nil ?_
        refine runs_seq ?_
        refine runs_seq ?_
        refine runs_region ?_
        refine' rl0 (gn rfl) rfl rfl (step_load_all rfl rfl F.agg27 ?hl) ⟨?hb, trivial⟩ ?_
        case hb => repeat (first | exact uE | refine uN (by omega) ?_ | assumption | exact hd _ (by omega) | fail)
        case hl => first | rfl | (simp; done) | (first | exact pgC_len _ | exact mtC_len _ | (simp; done) | (rw [pgC_len]; omega) | (rw [mtC_len]; omega) | omega)
        refine rl0 (gn rfl) rfl rfl (step_callc rfl Try.func13 rfl rfl rfl (len_c f hb) (by repeat (first | exact .nil | refine .cons ?_ ?_ | exact VLe.refl _ | exact VLe.own_sl _ _ _ | exact VLe.fl_sl _ _ | exact VLe.nil_sl _ | exact vle_int (by omega)))) trivial ?_
        refine rl0 (gn rfl) rfl rfl (step_mv rfl rfl) trivial ?_
        refine runsL_nil ?_
        refine runs_block ?_
        have hs1_ : List.replicate 224 (V.sc (.int .i64 0)) = mtC (cnt f 0) := by exact mt_zero f
        refine runs_loop (fun (ri_ : Nat) (st_ : Go.Vm.S) => ∃ (i : Nat) (m0 : Nat) (b0 : Nat → Box), (st_ = ⟨mk [(1, .ref (n + 0) 0), (2, .sc (.bool false)), (3, .ref (n + 1) 0), (4, .ref (n + 2) 0), (30, .sc (.int .i64 (f 0 : Int))), (31, .sc (.int .i64 (i : Int)))], m0, b0⟩) ∧ (ri_ = 1 + (f 0 - i)) ∧ (n + 3 ≤ m0) ∧ (∀ k_, k_ < n → b0 k_ = bx k_) ∧ (b0 (n + 0) = .cells (pgC f)) ∧ (b0 (n + 1) = .cells (pgC f)) ∧ (b0 (n + 2) = .cells (mtC (cnt f i))) ∧ (i ≤ f 0) ∧ (∀ j, j < i → okS f j = true)) (1 + (f 0 - 0)) ⟨_, sle ?_ (Nat.le_refl _), 0, _, _, rfl, rfl, ?_⟩ ?_
        · (repeat' (first | exact trivial | refine ⟨⟨_, rfl, ?_⟩, ?_⟩ | fail)); all_goals (repeat' (first | exact VLe.refl _ | exact VLe.own_sl _ _ _ | exact VLe.fl_sl _ _ | exact VLe.nil_sl _ | exact VLe.nil_fl _ | exact VLes.refl _ | exact .nil | refine VLe.tup ?_ | refine VLe.agg ?_ | refine .cons ?_ ?_ | (rw [Int.natCast_add]; exact VLe.refl _) | exact vle_int (by omega) | exact vle_bool (by first | rfl | assumption | (simp_all; done) | fail) | (rw [← hs1_]; exact VLe.refl _) | (rw [hs1_]; exact VLe.refl _) | fail))
        · exact ⟨by omega, (fun k_ hk_ => by repeat (first | exact rfl | refine uN (by omega) ?_ | assumption | fail)), by first | ((repeat (first | exact uE | assumption | refine uN (by omega) ?_ | fail)); done) | exact tl_eq (by repeat (first | exact uE | assumption | refine uN (by omega) ?_ | fail)) (by first | rfl | (simp [bytesV, beB_len]; done) | (simp [bytesV, beB_len]; omega) | omega) | (rw [← hs1_]; (repeat (first | exact uE | assumption | refine uN (by omega) ?_ | fail)); done), by first | ((repeat (first | exact uE | assumption | refine uN (by omega) ?_ | fail)); done) | exact tl_eq (by repeat (first | exact uE | assumption | refine uN (by omega) ?_ | fail)) (by first | rfl | (simp [bytesV, beB_len]; done) | (simp [bytesV, beB_len]; omega) | omega) | (rw [← hs1_]; (repeat (first | exact uE | assumption | refine uN (by omega) ?_ | fail)); done), by first | ((repeat (first | exact uE | assumption | refine uN (by omega) ?_ | fail)); done) | exact tl_eq (by repeat (first | exact uE | assumption | refine uN (by omega) ?_ | fail)) (by first | rfl | (simp [bytesV, beB_len]; done) | (simp [bytesV, beB_len]; omega) | omega) | (rw [← hs1_]; (repeat (first | exact uE | assumption | refine uN (by omega) ?_ | fail)); done), by omega, fun j hj => by omega⟩
        · rintro _ _ ⟨i, m0, b0, rfl, rfl, hm0, hf0, hB0_0, hB0_1, hB0_2, hF0_0, hF0_1⟩
          refine runs_know (fun hd0 => ?_)
          refine runs_bump 20 ?_
          simp only at hd0
          refine runs_seq ?_
          refine runs_region ?_
          refine rl_lss (gn rfl) rfl rfl rfl rfl rfl (fun h4 => ?_) (fun h4 => ?_)
          · skip
            refine runsL_nil ?_
            refine runs_seq ?_
            refine runs_cond true (ev_mk rfl) (fun _ => ?_) (fun h_ => nomatch h_)
            refine runs_skip ?_
            refine runs_seq ?_
            refine runs_block ?_
            refine runs_seq ?_
            refine runs_region ?_
            refine rl0 (gn rfl) rfl rfl (step_mv rfl rfl) trivial ?_
            refine rl0 (gn rfl) rfl rfl (step_as rfl rfl) trivial ?_
            refine runsL_nil ?_
            refine runs_seq ?_
            refine runs_region ?_
            have hba_ := hb (2 + 2 * i)
            have hbn_ := hb (3 + 2 * i)
            have e1_ : sA f i = f (2 + 2 * i) := rfl
            have e2_ : sN f i = f (3 + 2 * i) := rfl
            refine' rl0 (gn rfl) rfl rfl (step_load_all rfl rfl F.agg27 ?hl) ⟨?hb, trivial⟩ ?_
            case hb => repeat (first | exact uE | refine uN (by omega) ?_ | assumption | exact hd _ (by omega) | exact hd0 _ (by omega) | fail)
            case hl => first | rfl | (simp; done) | (first | exact pgC_len _ | exact mtC_len _ | (simp; done) | (rw [pgC_len]; omega) | (rw [mtC_len]; omega) | omega)
            refine rl0 (gn rfl) rfl rfl (step_mv rfl rfl) trivial ?_
            refine rl0 (gn rfl) rfl rfl (step_callc rfl Try.func29 rfl rfl rfl (slot_c f hb i (by omega)) (by repeat (first | exact .nil | refine .cons ?_ ?_ | exact VLe.refl _ | exact VLe.own_sl _ _ _ | exact VLe.fl_sl _ _ | exact VLe.nil_sl _ | exact vle_int (by omega)))) trivial ?_
            refine rl0 (gn rfl) rfl rfl (step_mv rfl rfl) trivial ?_
            refine rl0 (gn rfl) rfl rfl (step_extract rfl (ev_mk rfl) rfl) trivial ?_
            refine rl0 (gn rfl) rfl rfl (step_extract rfl (ev_mk rfl) rfl) trivial ?_
            refine rl0 (gn rfl) rfl rfl (step_as rfl rfl) trivial ?_
            refine rl0 (gn rfl) rfl rfl (step_as rfl rfl) trivial ?_
            refine runsL_nil ?_
            refine runs_seq ?_
            refine runs_seq ?_
            refine runs_region ?_
            refine rl0 (gn rfl) rfl rfl (step_mv rfl rfl) trivial ?_
            refine rl_eql (gn rfl) rfl rfl rfl rfl rfl (fun h5 => ?_) (fun h5 => ?_)
            · skip
              refine rl0 (gn rfl) rfl rfl (step_mv rfl rfl) trivial ?_
              refine rl0 (gy rfl rfl rfl rfl rfl rfl) rfl rfl (step_mv rfl rfl) trivial ?_
              refine rl_gtr (gy rfl rfl rfl rfl rfl rfl) rfl rfl rfl rfl rfl (fun h6 => ?_) (fun h6 => ?_)
              · skip
                refine rl0 (gn rfl) rfl rfl (step_pick rfl (ev_mk rfl) (ev_mk rfl)) trivial ?_
                refine rl0 (gn rfl) rfl rfl (step_mv rfl rfl) trivial ?_
                refine rlk rfl rfl rfl rfl rfl (ngb rfl rfl) rfl rfl ?_
                refine rlk rfl rfl rfl rfl rfl (ngb rfl rfl) rfl rfl ?_
                refine rlk rfl rfl rfl rfl rfl (ngb rfl rfl) rfl rfl ?_
                refine rlk rfl rfl rfl rfl rfl (ngu rfl) rfl rfl ?_
                refine rlk rfl rfl rfl rfl rfl (ngu rfl) rfl rfl ?_
                refine rlk rfl rfl rfl rfl rfl (ngu rfl) rfl rfl ?_
                refine rlk rfl rfl rfl rfl rfl (ngu rfl) rfl rfl ?_
                refine rlk rfl rfl rfl rfl rfl (ngu rfl) rfl rfl ?_
                refine rlk rfl rfl rfl rfl rfl (ngu rfl) rfl rfl ?_
                refine rlk rfl rfl rfl rfl rfl (ngu rfl) rfl rfl ?_
                refine rlk rfl rfl rfl rfl rfl (ngu rfl) rfl rfl ?_
                refine rlk rfl rfl rfl rfl rfl (ngu rfl) rfl rfl ?_
                refine rlk rfl rfl rfl rfl rfl (ngu rfl) rfl rfl ?_
                refine rlk rfl rfl rfl rfl rfl (ngb rfl rfl) rfl rfl ?_
                refine rl0 (gn rfl) rfl rfl (step_pick rfl (ev_mk rfl) (ev_mk rfl)) trivial ?_
                refine runsL_nil ?_
                refine runs_cond true (ev_mk rfl) (fun _ => ?_) (fun h_ => nomatch h_)
                refine runs_seq ?_
                refine runs_region ?_
                have hem_ := snd_f1 (f := f) (i := i) (by omega) (by omega)
                refine rl0 (gn rfl) rfl rfl (step_as rfl rfl) trivial ?_
                refine runsL_nil ?_
                refine runs_ret ?_
                refine ⟨by first | exact .inr rfl | exact .inl rfl, fin_mkg (rest rfl res0) ?_ ?_ ?_ ?_ ?_⟩
                · (repeat' (first | exact VLe.refl _ | exact VLe.own_sl _ _ _ | exact VLe.fl_sl _ _ | exact VLe.nil_sl _ | exact VLe.nil_fl _ | exact VLes.refl _ | exact .nil | refine VLe.tup ?_ | refine VLe.agg ?_ | refine .cons ?_ ?_ | (rw [Int.natCast_add]; exact VLe.refl _) | exact vle_int (by omega) | exact vle_bool (by first | rfl | assumption | (simp_all; done) | fail) | fail))
                · first | ((repeat (first | exact trivial | exact bd_pgA _ _ | exact bd_pg _ _ | exact bd_mt _ _ | assumption | omega | refine ⟨?_, ?_⟩ | fail)); done) | (repeat (first | exact trivial | assumption | omega | (refine bdR_map (fun _ => ?_)) | (refine bdL_map (fun _ => ?_)) | refine ⟨?_, ?_⟩ | fail))
                · intro k_ hk_; exact ble (by repeat (first | exact rfl | refine uN (by omega) ?_ | assumption | exact hf0 _ (by omega) | fail))
                · intro p hp; cases hp
                · first | ((repeat (first | exact trivial | exact bd_pgA _ _ | exact bd_pg _ _ | exact bd_mt _ _ | assumption | omega | refine ⟨?_, ?_⟩ | fail)); done) | (repeat (first | exact trivial | assumption | omega | (refine bdR_map (fun _ => ?_)) | (refine bdL_map (fun _ => ?_)) | refine ⟨?_, ?_⟩ | fail))
              · skip
                refine rl0 (gn rfl) rfl rfl (step_pick rfl (ev_mk rfl) (ev_mk rfl)) trivial ?_
                refine rl0 (gn rfl) rfl rfl (step_mv rfl rfl) trivial ?_
                refine rl0 (gy rfl rfl rfl rfl rfl rfl) rfl rfl (step_mv rfl rfl) trivial ?_
                refine rl_gtr (gy rfl rfl rfl rfl rfl rfl) rfl rfl rfl rfl rfl (fun h7 => ?_) (fun h7 => ?_)
                · skip
                  refine rl0 (gy rfl rfl rfl rfl rfl rfl) rfl rfl (step_mv rfl rfl) trivial ?_
                  refine rl0 (gy rfl rfl rfl rfl rfl rfl) rfl rfl (step_mv rfl rfl) trivial ?_
                  refine' rl0 (gy rfl rfl rfl rfl rfl rfl) rfl rfl (step_load_all rfl rfl F.agg27 ?hl) ⟨?hb, trivial⟩ ?_
                  case hb => repeat (first | exact uE | refine uN (by omega) ?_ | assumption | exact hd _ (by omega) | exact hd0 _ (by omega) | fail)
                  case hl => first | rfl | (simp; done) | (first | exact pgC_len _ | exact mtC_len _ | (simp; done) | (rw [pgC_len]; omega) | (rw [mtC_len]; omega) | omega)
                  refine rl0 (gy rfl rfl rfl rfl rfl rfl) rfl rfl (step_callc rfl Try.func28 rfl rfl rfl (low_c f hb) (by repeat (first | exact .nil | refine .cons ?_ ?_ | exact VLe.refl _ | exact VLe.own_sl _ _ _ | exact VLe.fl_sl _ _ | exact VLe.nil_sl _ | exact vle_int (by omega)))) trivial ?_
                  refine rl_lss (gy rfl rfl rfl rfl rfl rfl) rfl rfl rfl rfl rfl (fun h8 => ?_) (fun h8 => ?_)
                  · skip
                    refine rl0 (gy rfl rfl rfl rfl rfl rfl) rfl rfl (step_mv rfl rfl) trivial ?_
                    refine rlk rfl rfl rfl rfl rfl (ngb rfl rfl) rfl rfl ?_
                    refine rlk rfl rfl rfl rfl rfl (ngb rfl rfl) rfl rfl ?_
                    refine rlk rfl rfl rfl rfl rfl (ngb rfl rfl) rfl rfl ?_
                    refine rlk rfl rfl rfl rfl rfl (ngb rfl rfl) rfl rfl ?_
                    refine rl0 (gy rfl rfl rfl rfl rfl rfl) rfl rfl (step_pick rfl (ev_mk rfl) (ev_mk rfl)) trivial ?_
                    refine rl0 (gy rfl rfl rfl rfl rfl rfl) rfl rfl (step_pick rfl (ev_mk rfl) (ev_mk rfl)) trivial ?_
                    refine rl0 (gn rfl) rfl rfl (step_pick rfl (ev_mk rfl) (ev_mk rfl)) trivial ?_
                    refine runsL_nil ?_
                    refine runs_cond true (ev_mk rfl) (fun _ => ?_) (fun h_ => nomatch h_)
                    refine runs_seq ?_
                    refine runs_region ?_
                    have hem_ := snd_f1 (f := f) (i := i) (by omega) (by omega)
                    refine rl0 (gn rfl) rfl rfl (step_as rfl rfl) trivial ?_
                    refine runsL_nil ?_
                    refine runs_ret ?_
                    refine ⟨by first | exact .inr rfl | exact .inl rfl, fin_mkg (rest rfl res0) ?_ ?_ ?_ ?_ ?_⟩
                    · (repeat' (first | exact VLe.refl _ | exact VLe.own_sl _ _ _ | exact VLe.fl_sl _ _ | exact VLe.nil_sl _ | exact VLe.nil_fl _ | exact VLes.refl _ | exact .nil | refine VLe.tup ?_ | refine VLe.agg ?_ | refine .cons ?_ ?_ | (rw [Int.natCast_add]; exact VLe.refl _) | exact vle_int (by omega) | exact vle_bool (by first | rfl | assumption | (simp_all; done) | fail) | fail))
                    · first | ((repeat (first | exact trivial | exact bd_pgA _ _ | exact bd_pg _ _ | exact bd_mt _ _ | assumption | omega | refine ⟨?_, ?_⟩ | fail)); done) | (repeat (first | exact trivial | assumption | omega | (refine bdR_map (fun _ => ?_)) | (refine bdL_map (fun _ => ?_)) | refine ⟨?_, ?_⟩ | fail))
                    · intro k_ hk_; exact ble (by repeat (first | exact rfl | refine uN (by omega) ?_ | assumption | exact hf0 _ (by omega) | fail))
                    · intro p hp; cases hp
                    · first | ((repeat (first | exact trivial | exact bd_pgA _ _ | exact bd_pg _ _ | exact bd_mt _ _ | assumption | omega | refine ⟨?_, ?_⟩ | fail)); done) | (repeat (first | exact trivial | assumption | omega | (refine bdR_map (fun _ => ?_)) | (refine bdL_map (fun _ => ?_)) | refine ⟨?_, ?_⟩ | fail))
                  · skip
                    refine rl0 (gy rfl rfl rfl rfl rfl rfl) rfl rfl (step_mv rfl rfl) trivial ?_
                    refine rl0 (gy rfl rfl rfl rfl rfl rfl) rfl rfl (step_mv rfl rfl) trivial ?_
                    refine rl0 (gy rfl rfl rfl rfl rfl rfl) rfl rfl (step_mv rfl rfl) trivial ?_
                    refine rl0 (gy rfl rfl rfl rfl rfl rfl) rfl rfl (step_add rfl (ev_mk rfl) (ev_mk rfl) (w64 (by omega))) trivial ?_
                    refine rl_gtr (gy rfl rfl rfl rfl rfl rfl) rfl rfl rfl rfl rfl (fun h9 => ?_) (fun h9 => ?_)
                    · skip
                      refine rl0 (gy rfl rfl rfl rfl rfl rfl) rfl rfl (step_pick rfl (ev_mk rfl) (ev_mk rfl)) trivial ?_
                      refine rl0 (gy rfl rfl rfl rfl rfl rfl) rfl rfl (step_pick rfl (ev_mk rfl) (ev_mk rfl)) trivial ?_
                      refine rl0 (gn rfl) rfl rfl (step_pick rfl (ev_mk rfl) (ev_mk rfl)) trivial ?_
                      refine runsL_nil ?_
                      refine runs_cond true (ev_mk rfl) (fun _ => ?_) (fun h_ => nomatch h_)
                      refine runs_seq ?_
                      refine runs_region ?_
                      have hem_ := snd_f1 (f := f) (i := i) (by omega) (by omega)
                      refine rl0 (gn rfl) rfl rfl (step_as rfl rfl) trivial ?_
                      refine runsL_nil ?_
                      refine runs_ret ?_
                      refine ⟨by first | exact .inr rfl | exact .inl rfl, fin_mkg (rest rfl res0) ?_ ?_ ?_ ?_ ?_⟩
                      · (repeat' (first | exact VLe.refl _ | exact VLe.own_sl _ _ _ | exact VLe.fl_sl _ _ | exact VLe.nil_sl _ | exact VLe.nil_fl _ | exact VLes.refl _ | exact .nil | refine VLe.tup ?_ | refine VLe.agg ?_ | refine .cons ?_ ?_ | (rw [Int.natCast_add]; exact VLe.refl _) | exact vle_int (by omega) | exact vle_bool (by first | rfl | assumption | (simp_all; done) | fail) | fail))
                      · first | ((repeat (first | exact trivial | exact bd_pgA _ _ | exact bd_pg _ _ | exact bd_mt _ _ | assumption | omega | refine ⟨?_, ?_⟩ | fail)); done) | (repeat (first | exact trivial | assumption | omega | (refine bdR_map (fun _ => ?_)) | (refine bdL_map (fun _ => ?_)) | refine ⟨?_, ?_⟩ | fail))
                      · intro k_ hk_; exact ble (by repeat (first | exact rfl | refine uN (by omega) ?_ | assumption | exact hf0 _ (by omega) | fail))
                      · intro p hp; cases hp
                      · first | ((repeat (first | exact trivial | exact bd_pgA _ _ | exact bd_pg _ _ | exact bd_mt _ _ | assumption | omega | refine ⟨?_, ?_⟩ | fail)); done) | (repeat (first | exact trivial | assumption | omega | (refine bdR_map (fun _ => ?_)) | (refine bdL_map (fun _ => ?_)) | refine ⟨?_, ?_⟩ | fail))
                    · skip
                      refine rl0 (gy rfl rfl rfl rfl rfl rfl) rfl rfl (step_pick rfl (ev_mk rfl) (ev_mk rfl)) trivial ?_
                      refine rl0 (gy rfl rfl rfl rfl rfl rfl) rfl rfl (step_pick rfl (ev_mk rfl) (ev_mk rfl)) trivial ?_
                      refine rl0 (gn rfl) rfl rfl (step_pick rfl (ev_mk rfl) (ev_mk rfl)) trivial ?_
                      refine runsL_nil ?_
                      refine runs_cond false (ev_mk rfl) (fun h_ => nomatch h_) (fun _ => ?_)
                      refine runs_skip ?_
                      refine runs_seq ?_
                      refine runs_region ?_
                      have hok_ : okS f i = true := okS_iff.2 (by omega)
                      have hno_ : ∀ j, j < i + 1 → okS f j = true := fun j hj => (by rcases Nat.lt_or_ge j i with q | q; exact hF0_1 j q; (obtain rfl : j = i := by omega); exact hok_)
                      refine rl0 (gn rfl) rfl rfl (step_mv rfl rfl) trivial ?_
                      refine rl0 (gn rfl) rfl rfl (step_as rfl rfl) trivial ?_
                      refine runsL_nil ?_
                      refine runs_block ?_
                      have hs1_ : mtC (cnt f i) = mtC (mid f i (sA f i)) := by exact mid_0 f i
                      refine runs_loop (fun (ri_ : Nat) (st_ : Go.Vm.S) => ∃ (c : Nat) (m1 : Nat) (b1 : Nat → Box), (st_ = ⟨mk [(1, .ref (n + 0) 0), (2, .sc (.bool false)), (3, .ref (n + 1) 0), (4, .ref (n + 2) 0), (5, .sc (.int .i64 (i : Int))), (6, .sc (.int .i64 (sA f i : Int))), (7, .sc (.int .i64 (sN f i : Int))), (8, .sc (.int .i64 (c : Int))), (30, .sc (.int .i64 (f 0 : Int))), (31, .sc (.int .i64 (i : Int))), (32, .sc (.bool true)), (33, .sc (.int .i64 (i : Int))), (34, .tup [.sc (.int .i64 (sA f i : Int)), .sc (.int .i64 (sN f i : Int))]), (35, .agg (pgC f)), (36, .sc (.int .i64 (i : Int))), (37, .tup [.sc (.int .i64 (sA f i : Int)), .sc (.int .i64 (sN f i : Int))]), (38, .sc (.int .i64 (sA f i : Int))), (39, .sc (.int .i64 (sN f i : Int))), (40, .sc (.int .i64 (sA f i : Int))), (41, .sc (.bool true)), (42, .sc (.bool true)), (43, .sc (.int .i64 (sN f i : Int))), (44, .sc (.bool false)), (45, .sc (.bool false)), (46, .sc (.bool false)), (47, .sc (.int .i64 (sA f i : Int))), (48, .sc (.bool true)), (49, .sc (.bool true)), (50, .sc (.int .i64 (sA f i : Int))), (51, .agg (pgC f)), (52, .sc (.int .i64 (f 1 : Int))), (53, .sc (.bool false)), (54, .sc (.bool false)), (55, .sc (.int .i64 (sA f i : Int))), (56, .sc (.int .i64 (sN f i : Int))), (57, .sc (.int .i64 ((sA f i : Int) + (sN f i : Int)))), (58, .sc (.bool false)), (59, .sc (.bool false)), (60, .sc (.bool false)), (61, .sc (.bool false)), (62, .sc (.int .i64 (sA f i : Int)))], m1, b1⟩) ∧ (ri_ = 1 + (sA f i + sN f i - c)) ∧ (m0 + 0 ≤ m1) ∧ (∀ k_, k_ < n → b1 k_ = bx k_) ∧ (b1 (n + 0) = .cells (pgC f)) ∧ (b1 (n + 1) = .cells (pgC f)) ∧ (b1 (n + 2) = .cells (mtC (mid f i c))) ∧ (sA f i ≤ c) ∧ (0 < sA f i → c ≤ sA f i + sN f i)) (1 + (sA f i + sN f i - (sA f i))) ⟨_, sle ?_ (Nat.le_refl _), (sA f i), _, _, rfl, rfl, ?_⟩ ?_
                      · (repeat' (first | exact trivial | refine ⟨⟨_, rfl, ?_⟩, ?_⟩ | fail)); all_goals (repeat' (first | exact VLe.refl _ | exact VLe.own_sl _ _ _ | exact VLe.fl_sl _ _ | exact VLe.nil_sl _ | exact VLe.nil_fl _ | exact VLes.refl _ | exact .nil | refine VLe.tup ?_ | refine VLe.agg ?_ | refine .cons ?_ ?_ | (rw [Int.natCast_add]; exact VLe.refl _) | exact vle_int (by omega) | exact vle_bool (by first | rfl | assumption | (simp_all; done) | fail) | (rw [← hs1_]; exact VLe.refl _) | (rw [hs1_]; exact VLe.refl _) | fail))
                      · exact ⟨by omega, (fun k_ hk_ => by repeat (first | exact rfl | refine uN (by omega) ?_ | assumption | exact hf0 _ (by omega) | fail)), by first | ((repeat (first | exact uE | assumption | refine uN (by omega) ?_ | fail)); done) | exact tl_eq (by repeat (first | exact uE | assumption | refine uN (by omega) ?_ | fail)) (by first | rfl | (simp [bytesV, beB_len]; done) | (simp [bytesV, beB_len]; omega) | omega) | (rw [← hs1_]; (repeat (first | exact uE | assumption | refine uN (by omega) ?_ | fail)); done), by first | ((repeat (first | exact uE | assumption | refine uN (by omega) ?_ | fail)); done) | exact tl_eq (by repeat (first | exact uE | assumption | refine uN (by omega) ?_ | fail)) (by first | rfl | (simp [bytesV, beB_len]; done) | (simp [bytesV, beB_len]; omega) | omega) | (rw [← hs1_]; (repeat (first | exact uE | assumption | refine uN (by omega) ?_ | fail)); done), by first | ((repeat (first | exact uE | assumption | refine uN (by omega) ?_ | fail)); done) | exact tl_eq (by repeat (first | exact uE | assumption | refine uN (by omega) ?_ | fail)) (by first | rfl | (simp [bytesV, beB_len]; done) | (simp [bytesV, beB_len]; omega) | omega) | (rw [← hs1_]; (repeat (first | exact uE | assumption | refine uN (by omega) ?_ | fail)); done), by omega, by omega⟩
                      · rintro _ _ ⟨c, m1, b1, rfl, rfl, hm1, hf1, hB1_0, hB1_1, hB1_2, hF1_0, hF1_1⟩
                        refine runs_know (fun hd1 => ?_)
                        refine runs_bump 20 ?_
                        simp only at hd1
                        refine runs_seq ?_
                        refine runs_seq ?_
                        refine runs_region ?_
                        refine rl0 (gn rfl) rfl rfl (step_mv rfl rfl) trivial ?_
                        refine rl_gtr (gn rfl) rfl rfl rfl rfl rfl (fun h10 => ?_) (fun h10 => ?_)
                        · skip
                          refine rl0 (gn rfl) rfl rfl (step_mv rfl rfl) trivial ?_
                          refine rl0 (gy rfl rfl rfl rfl rfl rfl) rfl rfl (step_mv rfl rfl) trivial ?_
                          refine rl0 (gy rfl rfl rfl rfl rfl rfl) rfl rfl (step_mv rfl rfl) trivial ?_
                          refine rl0 (gy rfl rfl rfl rfl rfl rfl) rfl rfl (step_mv rfl rfl) trivial ?_
                          refine rl0 (gy rfl rfl rfl rfl rfl rfl) rfl rfl (step_add rfl (ev_mk rfl) (ev_mk rfl) (w64 (by omega))) trivial ?_
                          refine rl_lss (gy rfl rfl rfl rfl rfl rfl) rfl rfl rfl rfl rfl (fun h11 => ?_) (fun h11 => ?_)
                          · skip
                            refine rl0 (gn rfl) rfl rfl (step_pick rfl (ev_mk rfl) (ev_mk rfl)) trivial ?_
                            refine runsL_nil ?_
                            refine runs_cond true (ev_mk rfl) (fun _ => ?_) (fun h_ => nomatch h_)
                            refine runs_skip ?_
                            refine runs_seq ?_
                            refine runs_block ?_
                            refine runs_region ?_
                            have hcl_ := cnt_le f i c
                            have hmc_ := mid_c f i c
                            refine rl0 (gn rfl) rfl rfl (step_mv rfl rfl) trivial ?_
                            refine rl0 (gn rfl) rfl rfl (step_index_arr rfl (ev_mk rfl) (ev_mk rfl) Try.underlying64 F.sz3 (by omega) (by omega)) trivial ?_
                            refine' rl0 (gn rfl) rfl rfl (step_load_one (v := .sc (.int .i64 (mid f i c c : Int))) rfl (ev_mk rfl) F.one3 ?hv) ⟨?hb, trivial⟩ ?_
                            case hb => repeat (first | exact uE | refine uN (by omega) ?_ | assumption | exact hd _ (by omega) | exact hd0 _ (by omega) | exact hd1 _ (by omega) | fail)
                            case hv => exact mt_q (by omega) (by omega)
                            refine rl0 (gn rfl) rfl rfl (step_add rfl (ev_mk rfl) (ev_mk rfl) (w64 (by omega))) trivial ?_
                            refine rl0 (gn rfl) rfl rfl (step_index_arr rfl (ev_mk rfl) (ev_mk rfl) Try.underlying64 F.sz3 (by omega) (by omega)) trivial ?_
                            refine' rls (gn rfl) rfl (step_store1 (cs' := mtC (mid f i (c + 1))) rfl rfl rfl rfl F.one3 rfl rfl ?hl ?hc) ⟨?hb, trivial⟩ ?hk ?_
                            case hb => repeat (first | exact uE | refine uN (by omega) ?_ | assumption | exact hd _ (by omega) | exact hd0 _ (by omega) | exact hd1 _ (by omega) | fail)
                            case hl => (rw [mtC_len]; omega)
                            case hc => (rw [show ((mid f i c c : Nat) : Int) + 1 = ((mid f i c c + 1 : Nat) : Int) by omega, mt_set (k := c) (by omega)]; exact mid_s (by omega) (by omega))
                            case hk => omega
                            refine runsL_nil ?_
                            refine runs_region ?_
                            refine rl0 (gn rfl) rfl rfl (step_mv rfl rfl) trivial ?_
                            refine rl0 (gn rfl) rfl rfl (step_add rfl (ev_mk rfl) (ev_mk rfl) (w64 (by omega))) trivial ?_
                            refine rl0 (gn rfl) rfl rfl (step_as rfl rfl) trivial ?_
                            refine runsL_nil ?_
                            refine ⟨_, _, ?_, sle ?_ (Nat.le_refl _), (c + 1), _, _, rfl, rfl, by omega, (fun k_ hk_ => by repeat (first | exact hf1 k_ hk_ | exact hf0 k_ hk_ | refine uN (by first | assumption | omega) ?_ | fail)), by first | ((repeat (first | exact uE | assumption | refine uN (by omega) ?_ | fail)); done) | exact tl_eq (by repeat (first | exact uE | assumption | refine uN (by omega) ?_ | fail)) (by first | rfl | (simp [bytesV, beB_len]; done) | (simp [bytesV, beB_len]; omega) | omega), by first | ((repeat (first | exact uE | assumption | refine uN (by omega) ?_ | fail)); done) | exact tl_eq (by repeat (first | exact uE | assumption | refine uN (by omega) ?_ | fail)) (by first | rfl | (simp [bytesV, beB_len]; done) | (simp [bytesV, beB_len]; omega) | omega), by first | ((repeat (first | exact uE | assumption | refine uN (by omega) ?_ | fail)); done) | exact tl_eq (by repeat (first | exact uE | assumption | refine uN (by omega) ?_ | fail)) (by first | rfl | (simp [bytesV, beB_len]; done) | (simp [bytesV, beB_len]; omega) | omega), by omega, by omega⟩
                            · omega
                            · (repeat' (first | exact trivial | refine ⟨⟨_, rfl, ?_⟩, ?_⟩ | fail)); all_goals (repeat' (first | exact VLe.refl _ | exact VLe.own_sl _ _ _ | exact VLe.fl_sl _ _ | exact VLe.nil_sl _ | exact VLe.nil_fl _ | exact VLes.refl _ | exact .nil | refine VLe.tup ?_ | refine VLe.agg ?_ | refine .cons ?_ ?_ | (rw [Int.natCast_add]; exact VLe.refl _) | exact vle_int (by omega) | exact vle_bool (by first | rfl | assumption | (simp_all; done) | fail) | fail))
                          · skip
                            refine rl0 (gn rfl) rfl rfl (step_pick rfl (ev_mk rfl) (ev_mk rfl)) trivial ?_
                            refine runsL_nil ?_
                            refine runs_cond false (ev_mk rfl) (fun h_ => nomatch h_) (fun _ => ?_)
                            refine runs_exit ?_
                            refine runs_region ?_
                            refine rl0 (gn rfl) rfl rfl (step_add rfl (ev_mk rfl) (ev_mk rfl) (w64 (by omega))) trivial ?_
                            refine rl0 (gn rfl) rfl rfl (step_mv rfl rfl) trivial ?_
                            refine runsL_nil ?_
                            have hq1_ : mtC (mid f i c) = mtC (cnt f (i + 1)) := by exact mid_e (by omega)
                            refine ⟨_, _, ?_, sle ?_ (Nat.le_refl _), (i + 1), _, _, rfl, rfl, by omega, (fun k_ hk_ => by repeat (first | exact hf0 k_ hk_ | exact hf1 k_ hk_ | refine uN (by first | assumption | omega) ?_ | fail)), by first | ((repeat (first | exact uE | assumption | refine uN (by omega) ?_ | fail)); done) | exact tl_eq (by repeat (first | exact uE | assumption | refine uN (by omega) ?_ | fail)) (by first | rfl | (simp [bytesV, beB_len]; done) | (simp [bytesV, beB_len]; omega) | omega) | (rw [← hq1_]; (repeat (first | exact uE | assumption | refine uN (by omega) ?_ | fail)); done), by first | ((repeat (first | exact uE | assumption | refine uN (by omega) ?_ | fail)); done) | exact tl_eq (by repeat (first | exact uE | assumption | refine uN (by omega) ?_ | fail)) (by first | rfl | (simp [bytesV, beB_len]; done) | (simp [bytesV, beB_len]; omega) | omega) | (rw [← hq1_]; (repeat (first | exact uE | assumption | refine uN (by omega) ?_ | fail)); done), by first | ((repeat (first | exact uE | assumption | refine uN (by omega) ?_ | fail)); done) | exact tl_eq (by repeat (first | exact uE | assumption | refine uN (by omega) ?_ | fail)) (by first | rfl | (simp [bytesV, beB_len]; done) | (simp [bytesV, beB_len]; omega) | omega) | (rw [← hq1_]; (repeat (first | exact uE | assumption | refine uN (by omega) ?_ | fail)); done), by omega, hno_⟩
                            · omega
                            · (repeat' (first | exact trivial | refine ⟨⟨_, rfl, ?_⟩, ?_⟩ | fail)); all_goals (repeat' (first | exact VLe.refl _ | exact VLe.own_sl _ _ _ | exact VLe.fl_sl _ _ | exact VLe.nil_sl _ | exact VLe.nil_fl _ | exact VLes.refl _ | exact .nil | refine VLe.tup ?_ | refine VLe.agg ?_ | refine .cons ?_ ?_ | (rw [Int.natCast_add]; exact VLe.refl _) | exact vle_int (by omega) | exact vle_bool (by first | rfl | assumption | (simp_all; done) | fail) | (rw [← hq1_]; exact VLe.refl _) | (rw [hq1_]; exact VLe.refl _) | fail))
                        · skip
                          refine rl0 (gn rfl) rfl rfl (step_mv rfl rfl) trivial ?_
                          refine rlk rfl rfl rfl rfl rfl (ngb rfl rfl) rfl rfl ?_
                          refine rlk rfl rfl rfl rfl rfl (ngb rfl rfl) rfl rfl ?_
                          refine rlk rfl rfl rfl rfl rfl (ngb rfl rfl) rfl rfl ?_
                          refine rlk rfl rfl rfl rfl rfl (ngb rfl rfl) rfl rfl ?_
                          refine rlk rfl rfl rfl rfl rfl (ngb rfl rfl) rfl rfl ?_
                          refine rl0 (gn rfl) rfl rfl (step_pick rfl (ev_mk rfl) (ev_mk rfl)) trivial ?_
                          refine runsL_nil ?_
                          refine runs_cond false (ev_mk rfl) (fun h_ => nomatch h_) (fun _ => ?_)
                          refine runs_exit ?_
                          refine runs_region ?_
                          refine rl0 (gn rfl) rfl rfl (step_add rfl (ev_mk rfl) (ev_mk rfl) (w64 (by omega))) trivial ?_
                          refine rl0 (gn rfl) rfl rfl (step_mv rfl rfl) trivial ?_
                          refine runsL_nil ?_
                          have hq1_ : mtC (mid f i c) = mtC (cnt f (i + 1)) := by exact mid_e (by omega)
                          refine ⟨_, _, ?_, sle ?_ (Nat.le_refl _), (i + 1), _, _, rfl, rfl, by omega, (fun k_ hk_ => by repeat (first | exact hf0 k_ hk_ | exact hf1 k_ hk_ | refine uN (by first | assumption | omega) ?_ | fail)), by first | ((repeat (first | exact uE | assumption | refine uN (by omega) ?_ | fail)); done) | exact tl_eq (by repeat (first | exact uE | assumption | refine uN (by omega) ?_ | fail)) (by first | rfl | (simp [bytesV, beB_len]; done) | (simp [bytesV, beB_len]; omega) | omega) | (rw [← hq1_]; (repeat (first | exact uE | assumption | refine uN (by omega) ?_ | fail)); done), by first | ((repeat (first | exact uE | assumption | refine uN (by omega) ?_ | fail)); done) | exact tl_eq (by repeat (first | exact uE | assumption | refine uN (by omega) ?_ | fail)) (by first | rfl | (simp [bytesV, beB_len]; done) | (simp [bytesV, beB_len]; omega) | omega) | (rw [← hq1_]; (repeat (first | exact uE | assumption | refine uN (by omega) ?_ | fail)); done), by first | ((repeat (first | exact uE | assumption | refine uN (by omega) ?_ | fail)); done) | exact tl_eq (by repeat (first | exact uE | assumption | refine uN (by omega) ?_ | fail)) (by first | rfl | (simp [bytesV, beB_len]; done) | (simp [bytesV, beB_len]; omega) | omega) | (rw [← hq1_]; (repeat (first | exact uE | assumption | refine uN (by omega) ?_ | fail)); done), by omega, hno_⟩
                          · omega
                          · (repeat' (first | exact trivial | refine ⟨⟨_, rfl, ?_⟩, ?_⟩ | fail)); all_goals (repeat' (first | exact VLe.refl _ | exact VLe.own_sl _ _ _ | exact VLe.fl_sl _ _ | exact VLe.nil_sl _ | exact VLe.nil_fl _ | exact VLes.refl _ | exact .nil | refine VLe.tup ?_ | refine VLe.agg ?_ | refine .cons ?_ ?_ | (rw [Int.natCast_add]; exact VLe.refl _) | exact vle_int (by omega) | exact vle_bool (by first | rfl | assumption | (simp_all; done) | fail) | (rw [← hq1_]; exact VLe.refl _) | (rw [hq1_]; exact VLe.refl _) | fail))
                · skip
                  refine rl0 (gy rfl rfl rfl rfl rfl rfl) rfl rfl (step_mv rfl rfl) trivial ?_
                  refine rlk rfl rfl rfl rfl rfl (ngb rfl rfl) rfl rfl ?_
                  refine rlk rfl rfl rfl rfl rfl (ngb rfl rfl) rfl rfl ?_
                  refine rlk rfl rfl rfl rfl rfl (ngb rfl rfl) rfl rfl ?_
                  refine rlk rfl rfl rfl rfl rfl (ngb rfl rfl) rfl rfl ?_
                  refine rlk rfl rfl rfl rfl rfl (ngb rfl rfl) rfl rfl ?_
                  refine rlk rfl rfl rfl rfl rfl (ngu rfl) rfl rfl ?_
                  refine rlk rfl rfl rfl rfl rfl (ngu rfl) rfl rfl ?_
                  refine rlk rfl rfl rfl rfl rfl (ngu rfl) rfl rfl ?_
                  refine rlk rfl rfl rfl rfl rfl (ngu rfl) rfl rfl ?_
                  refine rlk rfl rfl rfl rfl rfl (ngb rfl rfl) rfl rfl ?_
                  refine rl0 (gy rfl rfl rfl rfl rfl rfl) rfl rfl (step_pick rfl (ev_mk rfl) (ev_mk rfl)) trivial ?_
                  refine rl0 (gn rfl) rfl rfl (step_pick rfl (ev_mk rfl) (ev_mk rfl)) trivial ?_
                  refine runsL_nil ?_
                  refine runs_cond false (ev_mk rfl) (fun h_ => nomatch h_) (fun _ => ?_)
                  refine runs_skip ?_
                  refine runs_seq ?_
                  refine runs_region ?_
                  have hok_ : okS f i = true := okS_iff.2 (by omega)
                  have hno_ : ∀ j, j < i + 1 → okS f j = true := fun j hj => (by rcases Nat.lt_or_ge j i with q | q; exact hF0_1 j q; (obtain rfl : j = i := by omega); exact hok_)
                  refine rl0 (gn rfl) rfl rfl (step_mv rfl rfl) trivial ?_
                  refine rl0 (gn rfl) rfl rfl (step_as rfl rfl) trivial ?_
                  refine runsL_nil ?_
                  refine runs_block ?_
                  have hs1_ : mtC (cnt f i) = mtC (mid f i (sA f i)) := by exact mid_0 f i
                  refine runs_loop (fun (ri_ : Nat) (st_ : Go.Vm.S) => ∃ (c : Nat) (m1 : Nat) (b1 : Nat → Box), (st_ = ⟨mk [(1, .ref (n + 0) 0), (2, .sc (.bool false)), (3, .ref (n + 1) 0), (4, .ref (n + 2) 0), (5, .sc (.int .i64 (i : Int))), (6, .sc (.int .i64 (sA f i : Int))), (7, .sc (.int .i64 (sN f i : Int))), (8, .sc (.int .i64 (c : Int))), (30, .sc (.int .i64 (f 0 : Int))), (31, .sc (.int .i64 (i : Int))), (32, .sc (.bool true)), (33, .sc (.int .i64 (i : Int))), (34, .tup [.sc (.int .i64 (sA f i : Int)), .sc (.int .i64 (sN f i : Int))]), (35, .agg (pgC f)), (36, .sc (.int .i64 (i : Int))), (37, .tup [.sc (.int .i64 (sA f i : Int)), .sc (.int .i64 (sN f i : Int))]), (38, .sc (.int .i64 (sA f i : Int))), (39, .sc (.int .i64 (sN f i : Int))), (40, .sc (.int .i64 (sA f i : Int))), (41, .sc (.bool true)), (42, .sc (.bool true)), (43, .sc (.int .i64 (sN f i : Int))), (44, .sc (.bool false)), (45, .sc (.bool false)), (46, .sc (.bool false)), (47, .sc (.int .i64 (sA f i : Int))), (48, .sc (.bool false)), (49, .sc (.bool false)), (50, .sc undef), (51, .sc undef), (52, .sc undef), (53, .sc undef), (54, .sc undef), (55, .sc undef), (56, .sc undef), (57, .sc undef), (58, .sc undef), (59, .sc undef), (60, .sc (.bool false)), (61, .sc (.bool false)), (62, .sc (.int .i64 (sA f i : Int)))], m1, b1⟩) ∧ (ri_ = 1 + (sA f i + sN f i - c)) ∧ (m0 + 0 ≤ m1) ∧ (∀ k_, k_ < n → b1 k_ = bx k_) ∧ (b1 (n + 0) = .cells (pgC f)) ∧ (b1 (n + 1) = .cells (pgC f)) ∧ (b1 (n + 2) = .cells (mtC (mid f i c))) ∧ (sA f i ≤ c) ∧ (0 < sA f i → c ≤ sA f i + sN f i)) (1 + (sA f i + sN f i - (sA f i))) ⟨_, sle ?_ (Nat.le_refl _), (sA f i), _, _, rfl, rfl, ?_⟩ ?_
                  · (repeat' (first | exact trivial | refine ⟨⟨_, rfl, ?_⟩, ?_⟩ | fail)); all_goals (repeat' (first | exact VLe.refl _ | exact VLe.own_sl _ _ _ | exact VLe.fl_sl _ _ | exact VLe.nil_sl _ | exact VLe.nil_fl _ | exact VLes.refl _ | exact .nil | refine VLe.tup ?_ | refine VLe.agg ?_ | refine .cons ?_ ?_ | (rw [Int.natCast_add]; exact VLe.refl _) | exact vle_int (by omega) | exact vle_bool (by first | rfl | assumption | (simp_all; done) | fail) | (rw [← hs1_]; exact VLe.refl _) | (rw [hs1_]; exact VLe.refl _) | fail))
                  · exact ⟨by omega, (fun k_ hk_ => by repeat (first | exact rfl | refine uN (by omega) ?_ | assumption | exact hf0 _ (by omega) | fail)), by first | ((repeat (first | exact uE | assumption | refine uN (by omega) ?_ | fail)); done) | exact tl_eq (by repeat (first | exact uE | assumption | refine uN (by omega) ?_ | fail)) (by first | rfl | (simp [bytesV, beB_len]; done) | (simp [bytesV, beB_len]; omega) | omega) | (rw [← hs1_]; (repeat (first | exact uE | assumption | refine uN (by omega) ?_ | fail)); done), by first | ((repeat (first | exact uE | assumption | refine uN (by omega) ?_ | fail)); done) | exact tl_eq (by repeat (first | exact uE | assumption | refine uN (by omega) ?_ | fail)) (by first | rfl | (simp [bytesV, beB_len]; done) | (simp [bytesV, beB_len]; omega) | omega) | (rw [← hs1_]; (repeat (first | exact uE | assumption | refine uN (by omega) ?_ | fail)); done), by first | ((repeat (first | exact uE | assumption | refine uN (by omega) ?_ | fail)); done) | exact tl_eq (by repeat (first | exact uE | assumption | refine uN (by omega) ?_ | fail)) (by first | rfl | (simp [bytesV, beB_len]; done) | (simp [bytesV, beB_len]; omega) | omega) | (rw [← hs1_]; (repeat (first | exact uE | assumption | refine uN (by omega) ?_ | fail)); done), by omega, by omega⟩
                  · rintro _ _ ⟨c, m1, b1, rfl, rfl, hm1, hf1, hB1_0, hB1_1, hB1_2, hF1_0, hF1_1⟩
                    refine runs_know (fun hd1 => ?_)
                    refine runs_bump 20 ?_
                    simp only at hd1
                    refine runs_seq ?_
                    refine runs_seq ?_
                    refine runs_region ?_
                    refine rl0 (gn rfl) rfl rfl (step_mv rfl rfl) trivial ?_
                    refine rl_gtr (gn rfl) rfl rfl rfl rfl rfl (fun h8 => ?_) (fun h8 => ?_)
                    · skip
                      refine rl0 (gn rfl) rfl rfl (step_mv rfl rfl) trivial ?_
                      refine rl0 (gy rfl rfl rfl rfl rfl rfl) rfl rfl (step_mv rfl rfl) trivial ?_
                      refine rl0 (gy rfl rfl rfl rfl rfl rfl) rfl rfl (step_mv rfl rfl) trivial ?_
                      refine rl0 (gy rfl rfl rfl rfl rfl rfl) rfl rfl (step_mv rfl rfl) trivial ?_
                      refine rl0 (gy rfl rfl rfl rfl rfl rfl) rfl rfl (step_add rfl (ev_mk rfl) (ev_mk rfl) (w64 (by omega))) trivial ?_
                      refine rl_lss (gy rfl rfl rfl rfl rfl rfl) rfl rfl rfl rfl rfl (fun h9 => ?_) (fun h9 => ?_)
                      · skip
                        refine rl0 (gn rfl) rfl rfl (step_pick rfl (ev_mk rfl) (ev_mk rfl)) trivial ?_
                        refine runsL_nil ?_
                        refine runs_cond true (ev_mk rfl) (fun _ => ?_) (fun h_ => nomatch h_)
                        refine runs_skip ?_
                        refine runs_seq ?_
                        refine runs_block ?_
                        refine runs_region ?_
                        have hcl_ := cnt_le f i c
                        have hmc_ := mid_c f i c
                        refine rl0 (gn rfl) rfl rfl (step_mv rfl rfl) trivial ?_
                        refine rl0 (gn rfl) rfl rfl (step_index_arr rfl (ev_mk rfl) (ev_mk rfl) Try.underlying64 F.sz3 (by omega) (by omega)) trivial ?_
                        refine' rl0 (gn rfl) rfl rfl (step_load_one (v := .sc (.int .i64 (mid f i c c : Int))) rfl (ev_mk rfl) F.one3 ?hv) ⟨?hb, trivial⟩ ?_
                        case hb => repeat (first | exact uE | refine uN (by omega) ?_ | assumption | exact hd _ (by omega) | exact hd0 _ (by omega) | exact hd1 _ (by omega) | fail)
                        case hv => exact mt_q (by omega) (by omega)
                        refine rl0 (gn rfl) rfl rfl (step_add rfl (ev_mk rfl) (ev_mk rfl) (w64 (by omega))) trivial ?_
                        refine rl0 (gn rfl) rfl rfl (step_index_arr rfl (ev_mk rfl) (ev_mk rfl) Try.underlying64 F.sz3 (by omega) (by omega)) trivial ?_
                        refine' rls (gn rfl) rfl (step_store1 (cs' := mtC (mid f i (c + 1))) rfl rfl rfl rfl F.one3 rfl rfl ?hl ?hc) ⟨?hb, trivial⟩ ?hk ?_
                        case hb => repeat (first | exact uE | refine uN (by omega) ?_ | assumption | exact hd _ (by omega) | exact hd0 _ (by omega) | exact hd1 _ (by omega) | fail)
                        case hl => (rw [mtC_len]; omega)
                        case hc => (rw [show ((mid f i c c : Nat) : Int) + 1 = ((mid f i c c + 1 : Nat) : Int) by omega, mt_set (k := c) (by omega)]; exact mid_s (by omega) (by omega))
                        case hk => omega
                        refine runsL_nil ?_
                        refine runs_region ?_
                        refine rl0 (gn rfl) rfl rfl (step_mv rfl rfl) trivial ?_
                        refine rl0 (gn rfl) rfl rfl (step_add rfl (ev_mk rfl) (ev_mk rfl) (w64 (by omega))) trivial ?_
                        refine rl0 (gn rfl) rfl rfl (step_as rfl rfl) trivial ?_
                        refine runsL_nil ?_
                        refine ⟨_, _, ?_, sle ?_ (Nat.le_refl _), (c + 1), _, _, rfl, rfl, by omega, (fun k_ hk_ => by repeat (first | exact hf1 k_ hk_ | exact hf0 k_ hk_ | refine uN (by first | assumption | omega) ?_ | fail)), by first | ((repeat (first | exact uE | assumption | refine uN (by omega) ?_ | fail)); done) | exact tl_eq (by repeat (first | exact uE | assumption | refine uN (by omega) ?_ | fail)) (by first | rfl | (simp [bytesV, beB_len]; done) | (simp [bytesV, beB_len]; omega) | omega), by first | ((repeat (first | exact uE | assumption | refine uN (by omega) ?_ | fail)); done) | exact tl_eq (by repeat (first | exact uE | assumption | refine uN (by omega) ?_ | fail)) (by first | rfl | (simp [bytesV, beB_len]; done) | (simp [bytesV, beB_len]; omega) | omega), by first | ((repeat (first | exact uE | assumption | refine uN (by omega) ?_ | fail)); done) | exact tl_eq (by repeat (first | exact uE | assumption | refine uN (by omega) ?_ | fail)) (by first | rfl | (simp [bytesV, beB_len]; done) | (simp [bytesV, beB_len]; omega) | omega), by omega, by omega⟩
                        · omega
                        · (repeat' (first | exact trivial | refine ⟨⟨_, rfl, ?_⟩, ?_⟩ | fail)); all_goals (repeat' (first | exact VLe.refl _ | exact VLe.own_sl _ _ _ | exact VLe.fl_sl _ _ | exact VLe.nil_sl _ | exact VLe.nil_fl _ | exact VLes.refl _ | exact .nil | refine VLe.tup ?_ | refine VLe.agg ?_ | refine .cons ?_ ?_ | (rw [Int.natCast_add]; exact VLe.refl _) | exact vle_int (by omega) | exact vle_bool (by first | rfl | assumption | (simp_all; done) | fail) | fail))
                      · skip
                        refine rl0 (gn rfl) rfl rfl (step_pick rfl (ev_mk rfl) (ev_mk rfl)) trivial ?_
                        refine runsL_nil ?_
                        refine runs_cond false (ev_mk rfl) (fun h_ => nomatch h_) (fun _ => ?_)
                        refine runs_exit ?_
                        refine runs_region ?_
                        refine rl0 (gn rfl) rfl rfl (step_add rfl (ev_mk rfl) (ev_mk rfl) (w64 (by omega))) trivial ?_
                        refine rl0 (gn rfl) rfl rfl (step_mv rfl rfl) trivial ?_
                        refine runsL_nil ?_
                        have hq1_ : mtC (mid f i c) = mtC (cnt f (i + 1)) := by exact mid_e (by omega)
                        refine ⟨_, _, ?_, sle ?_ (Nat.le_refl _), (i + 1), _, _, rfl, rfl, by omega, (fun k_ hk_ => by repeat (first | exact hf0 k_ hk_ | exact hf1 k_ hk_ | refine uN (by first | assumption | omega) ?_ | fail)), by first | ((repeat (first | exact uE | assumption | refine uN (by omega) ?_ | fail)); done) | exact tl_eq (by repeat (first | exact uE | assumption | refine uN (by omega) ?_ | fail)) (by first | rfl | (simp [bytesV, beB_len]; done) | (simp [bytesV, beB_len]; omega) | omega) | (rw [← hq1_]; (repeat (first | exact uE | assumption | refine uN (by omega) ?_ | fail)); done), by first | ((repeat (first | exact uE | assumption | refine uN (by omega) ?_ | fail)); done) | exact tl_eq (by repeat (first | exact uE | assumption | refine uN (by omega) ?_ | fail)) (by first | rfl | (simp [bytesV, beB_len]; done) | (simp [bytesV, beB_len]; omega) | omega) | (rw [← hq1_]; (repeat (first | exact uE | assumption | refine uN (by omega) ?_ | fail)); done), by first | ((repeat (first | exact uE | assumption | refine uN (by omega) ?_ | fail)); done) | exact tl_eq (by repeat (first | exact uE | assumption | refine uN (by omega) ?_ | fail)) (by first | rfl | (simp [bytesV, beB_len]; done) | (simp [bytesV, beB_len]; omega) | omega) | (rw [← hq1_]; (repeat (first | exact uE | assumption | refine uN (by omega) ?_ | fail)); done), by omega, hno_⟩
                        · omega
                        · (repeat' (first | exact trivial | refine ⟨⟨_, rfl, ?_⟩, ?_⟩ | fail)); all_goals (repeat' (first | exact VLe.refl _ | exact VLe.own_sl _ _ _ | exact VLe.fl_sl _ _ | exact VLe.nil_sl _ | exact VLe.nil_fl _ | exact VLes.refl _ | exact .nil | refine VLe.tup ?_ | refine VLe.agg ?_ | refine .cons ?_ ?_ | (rw [Int.natCast_add]; exact VLe.refl _) | exact vle_int (by omega) | exact vle_bool (by first | rfl | assumption | (simp_all; done) | fail) | (rw [← hq1_]; exact VLe.refl _) | (rw [hq1_]; exact VLe.refl _) | fail))
                    · skip
                      refine rl0 (gn rfl) rfl rfl (step_mv rfl rfl) trivial ?_
                      refine rlk rfl rfl rfl rfl rfl (ngb rfl rfl) rfl rfl ?_
                      refine rlk rfl rfl rfl rfl rfl (ngb rfl rfl) rfl rfl ?_
                      refine rlk rfl rfl rfl rfl rfl (ngb rfl rfl) rfl rfl ?_
                      refine rlk rfl rfl rfl rfl rfl (ngb rfl rfl) rfl rfl ?_
                      refine rlk rfl rfl rfl rfl rfl (ngb rfl rfl) rfl rfl ?_
                      refine rl0 (gn rfl) rfl rfl (step_pick rfl (ev_mk rfl) (ev_mk rfl)) trivial ?_
                      refine runsL_nil ?_
                      refine runs_cond false (ev_mk rfl) (fun h_ => nomatch h_) (fun _ => ?_)
                      refine runs_exit ?_
                      refine runs_region ?_
                      refine rl0 (gn rfl) rfl rfl (step_add rfl (ev_mk rfl) (ev_mk rfl) (w64 (by omega))) trivial ?_
                      refine rl0 (gn rfl) rfl rfl (step_mv rfl rfl) trivial ?_
                      refine runsL_nil ?_
                      have hq1_ : mtC (mid f i c) = mtC (cnt f (i + 1)) := by exact mid_e (by omega)
                      refine ⟨_, _, ?_, sle ?_ (Nat.le_refl _), (i + 1), _, _, rfl, rfl, by omega, (fun k_ hk_ => by repeat (first | exact hf0 k_ hk_ | exact hf1 k_ hk_ | refine uN (by first | assumption | omega) ?_ | fail)), by first | ((repeat (first | exact uE | assumption | refine uN (by omega) ?_ | fail)); done) | exact tl_eq (by repeat (first | exact uE | assumption | refine uN (by omega) ?_ | fail)) (by first | rfl | (simp [bytesV, beB_len]; done) | (simp [bytesV, beB_len]; omega) | omega) | (rw [← hq1_]; (repeat (first | exact uE | assumption | refine uN (by omega) ?_ | fail)); done), by first | ((repeat (first | exact uE | assumption | refine uN (by omega) ?_ | fail)); done) | exact tl_eq (by repeat (first | exact uE | assumption | refine uN (by omega) ?_ | fail)) (by first | rfl | (simp [bytesV, beB_len]; done) | (simp [bytesV, beB_len]; omega) | omega) | (rw [← hq1_]; (repeat (first | exact uE | assumption | refine uN (by omega) ?_ | fail)); done), by first | ((repeat (first | exact uE | assumption | refine uN (by omega) ?_ | fail)); done) | exact tl_eq (by repeat (first | exact uE | assumption | refine uN (by omega) ?_ | fail)) (by first | rfl | (simp [bytesV, beB_len]; done) | (simp [bytesV, beB_len]; omega) | omega) | (rw [← hq1_]; (repeat (first | exact uE | assumption | refine uN (by omega) ?_ | fail)); done), by omega, hno_⟩
                      · omega
                      · (repeat' (first | exact trivial | refine ⟨⟨_, rfl, ?_⟩, ?_⟩ | fail)); all_goals (repeat' (first | exact VLe.refl _ | exact VLe.own_sl _ _ _ | exact VLe.fl_sl _ _ | exact VLe.nil_sl _ | exact VLe.nil_fl _ | exact VLes.refl _ | exact .nil | refine VLe.tup ?_ | refine VLe.agg ?_ | refine .cons ?_ ?_ | (rw [Int.natCast_add]; exact VLe.refl _) | exact vle_int (by omega) | exact vle_bool (by first | rfl | assumption | (simp_all; done) | fail) | (rw [← hq1_]; exact VLe.refl _) | (rw [hq1_]; exact VLe.refl _) | fail))
            · skip
              refine rl0 (gn rfl) rfl rfl (step_mv rfl rfl) trivial ?_
              refine rlk rfl rfl rfl rfl rfl (ngb rfl rfl) rfl rfl ?_
              refine rlk rfl rfl rfl rfl rfl (ngb rfl rfl) rfl rfl ?_
              refine rl0 (gn rfl) rfl rfl (step_pick rfl (ev_mk rfl) (ev_mk rfl)) trivial ?_
              refine rl0 (gn rfl) rfl rfl (step_mv rfl rfl) trivial ?_
              refine rl0 (gy rfl rfl rfl rfl rfl rfl) rfl rfl (step_mv rfl rfl) trivial ?_
              refine rl_gtr (gy rfl rfl rfl rfl rfl rfl) rfl rfl rfl rfl rfl (fun h6 => ?_) (fun h6 => ?_)
              · skip
                refine rl0 (gy rfl rfl rfl rfl rfl rfl) rfl rfl (step_mv rfl rfl) trivial ?_
                refine rl0 (gy rfl rfl rfl rfl rfl rfl) rfl rfl (step_mv rfl rfl) trivial ?_
                refine' rl0 (gy rfl rfl rfl rfl rfl rfl) rfl rfl (step_load_all rfl rfl F.agg27 ?hl) ⟨?hb, trivial⟩ ?_
                case hb => repeat (first | exact uE | refine uN (by omega) ?_ | assumption | exact hd _ (by omega) | exact hd0 _ (by omega) | fail)
                case hl => first | rfl | (simp; done) | (first | exact pgC_len _ | exact mtC_len _ | (simp; done) | (rw [pgC_len]; omega) | (rw [mtC_len]; omega) | omega)
                refine rl0 (gy rfl rfl rfl rfl rfl rfl) rfl rfl (step_callc rfl Try.func28 rfl rfl rfl (low_c f hb) (by repeat (first | exact .nil | refine .cons ?_ ?_ | exact VLe.refl _ | exact VLe.own_sl _ _ _ | exact VLe.fl_sl _ _ | exact VLe.nil_sl _ | exact vle_int (by omega)))) trivial ?_
                refine rl_lss (gy rfl rfl rfl rfl rfl rfl) rfl rfl rfl rfl rfl (fun h7 => ?_) (fun h7 => ?_)
                · skip
                  refine rl0 (gy rfl rfl rfl rfl rfl rfl) rfl rfl (step_mv rfl rfl) trivial ?_
                  refine rlk rfl rfl rfl rfl rfl (ngb rfl rfl) rfl rfl ?_
                  refine rlk rfl rfl rfl rfl rfl (ngb rfl rfl) rfl rfl ?_
                  refine rlk rfl rfl rfl rfl rfl (ngb rfl rfl) rfl rfl ?_
                  refine rlk rfl rfl rfl rfl rfl (ngb rfl rfl) rfl rfl ?_
                  refine rl0 (gy rfl rfl rfl rfl rfl rfl) rfl rfl (step_pick rfl (ev_mk rfl) (ev_mk rfl)) trivial ?_
                  refine rl0 (gy rfl rfl rfl rfl rfl rfl) rfl rfl (step_pick rfl (ev_mk rfl) (ev_mk rfl)) trivial ?_
                  refine rl0 (gn rfl) rfl rfl (step_pick rfl (ev_mk rfl) (ev_mk rfl)) trivial ?_
                  refine runsL_nil ?_
                  refine runs_cond true (ev_mk rfl) (fun _ => ?_) (fun h_ => nomatch h_)
                  refine runs_seq ?_
                  refine runs_region ?_
                  have hem_ := snd_f1 (f := f) (i := i) (by omega) (by omega)
                  refine rl0 (gn rfl) rfl rfl (step_as rfl rfl) trivial ?_
                  refine runsL_nil ?_
                  refine runs_ret ?_
                  refine ⟨by first | exact .inr rfl | exact .inl rfl, fin_mkg (rest rfl res0) ?_ ?_ ?_ ?_ ?_⟩
                  · (repeat' (first | exact VLe.refl _ | exact VLe.own_sl _ _ _ | exact VLe.fl_sl _ _ | exact VLe.nil_sl _ | exact VLe.nil_fl _ | exact VLes.refl _ | exact .nil | refine VLe.tup ?_ | refine VLe.agg ?_ | refine .cons ?_ ?_ | (rw [Int.natCast_add]; exact VLe.refl _) | exact vle_int (by omega) | exact vle_bool (by first | rfl | assumption | (simp_all; done) | fail) | fail))
                  · first | ((repeat (first | exact trivial | exact bd_pgA _ _ | exact bd_pg _ _ | exact bd_mt _ _ | assumption | omega | refine ⟨?_, ?_⟩ | fail)); done) | (repeat (first | exact trivial | assumption | omega | (refine bdR_map (fun _ => ?_)) | (refine bdL_map (fun _ => ?_)) | refine ⟨?_, ?_⟩ | fail))
                  · intro k_ hk_; exact ble (by repeat (first | exact rfl | refine uN (by omega) ?_ | assumption | exact hf0 _ (by omega) | fail))
                  · intro p hp; cases hp
                  · first | ((repeat (first | exact trivial | exact bd_pgA _ _ | exact bd_pg _ _ | exact bd_mt _ _ | assumption | omega | refine ⟨?_, ?_⟩ | fail)); done) | (repeat (first | exact trivial | assumption | omega | (refine bdR_map (fun _ => ?_)) | (refine bdL_map (fun _ => ?_)) | refine ⟨?_, ?_⟩ | fail))
                · skip
                  refine rl0 (gy rfl rfl rfl rfl rfl rfl) rfl rfl (step_mv rfl rfl) trivial ?_
                  refine rl0 (gy rfl rfl rfl rfl rfl rfl) rfl rfl (step_mv rfl rfl) trivial ?_
                  refine rl0 (gy rfl rfl rfl rfl rfl rfl) rfl rfl (step_mv rfl rfl) trivial ?_
                  refine rl0 (gy rfl rfl rfl rfl rfl rfl) rfl rfl (step_add rfl (ev_mk rfl) (ev_mk rfl) (w64 (by omega))) trivial ?_
                  refine rl_gtr (gy rfl rfl rfl rfl rfl rfl) rfl rfl rfl rfl rfl (fun h8 => ?_) (fun h8 => ?_)
                  · skip
                    refine rl0 (gy rfl rfl rfl rfl rfl rfl) rfl rfl (step_pick rfl (ev_mk rfl) (ev_mk rfl)) trivial ?_
                    refine rl0 (gy rfl rfl rfl rfl rfl rfl) rfl rfl (step_pick rfl (ev_mk rfl) (ev_mk rfl)) trivial ?_
                    refine rl0 (gn rfl) rfl rfl (step_pick rfl (ev_mk rfl) (ev_mk rfl)) trivial ?_
                    refine runsL_nil ?_
                    refine runs_cond true (ev_mk rfl) (fun _ => ?_) (fun h_ => nomatch h_)
                    refine runs_seq ?_
                    refine runs_region ?_
                    have hem_ := snd_f1 (f := f) (i := i) (by omega) (by omega)
                    refine rl0 (gn rfl) rfl rfl (step_as rfl rfl) trivial ?_
                    refine runsL_nil ?_
                    refine runs_ret ?_
                    refine ⟨by first | exact .inr rfl | exact .inl rfl, fin_mkg (rest rfl res0) ?_ ?_ ?_ ?_ ?_⟩
                    · (repeat' (first | exact VLe.refl _ | exact VLe.own_sl _ _ _ | exact VLe.fl_sl _ _ | exact VLe.nil_sl _ | exact VLe.nil_fl _ | exact VLes.refl _ | exact .nil | refine VLe.tup ?_ | refine VLe.agg ?_ | refine .cons ?_ ?_ | (rw [Int.natCast_add]; exact VLe.refl _) | exact vle_int (by omega) | exact vle_bool (by first | rfl | assumption | (simp_all; done) | fail) | fail))
                    · first | ((repeat (first | exact trivial | exact bd_pgA _ _ | exact bd_pg _ _ | exact bd_mt _ _ | assumption | omega | refine ⟨?_, ?_⟩ | fail)); done) | (repeat (first | exact trivial | assumption | omega | (refine bdR_map (fun _ => ?_)) | (refine bdL_map (fun _ => ?_)) | refine ⟨?_, ?_⟩ | fail))
                    · intro k_ hk_; exact ble (by repeat (first | exact rfl | refine uN (by omega) ?_ | assumption | exact hf0 _ (by omega) | fail))
                    · intro p hp; cases hp
                    · first | ((repeat (first | exact trivial | exact bd_pgA _ _ | exact bd_pg _ _ | exact bd_mt _ _ | assumption | omega | refine ⟨?_, ?_⟩ | fail)); done) | (repeat (first | exact trivial | assumption | omega | (refine bdR_map (fun _ => ?_)) | (refine bdL_map (fun _ => ?_)) | refine ⟨?_, ?_⟩ | fail))
                  · skip
                    refine rl0 (gy rfl rfl rfl rfl rfl rfl) rfl rfl (step_pick rfl (ev_mk rfl) (ev_mk rfl)) trivial ?_
                    refine rl0 (gy rfl rfl rfl rfl rfl rfl) rfl rfl (step_pick rfl (ev_mk rfl) (ev_mk rfl)) trivial ?_
                    refine rl0 (gn rfl) rfl rfl (step_pick rfl (ev_mk rfl) (ev_mk rfl)) trivial ?_
                    refine runsL_nil ?_
                    refine runs_cond false (ev_mk rfl) (fun h_ => nomatch h_) (fun _ => ?_)
                    refine runs_skip ?_
                    refine runs_seq ?_
                    refine runs_region ?_
                    have hok_ : okS f i = true := okS_iff.2 (by omega)
                    have hno_ : ∀ j, j < i + 1 → okS f j = true := fun j hj => (by rcases Nat.lt_or_ge j i with q | q; exact hF0_1 j q; (obtain rfl : j = i := by omega); exact hok_)
                    refine rl0 (gn rfl) rfl rfl (step_mv rfl rfl) trivial ?_
                    refine rl0 (gn rfl) rfl rfl (step_as rfl rfl) trivial ?_
                    refine runsL_nil ?_
                    refine runs_block ?_
                    have hs1_ : mtC (cnt f i) = mtC (mid f i (sA f i)) := by exact mid_0 f i
                    refine runs_loop (fun (ri_ : Nat) (st_ : Go.Vm.S) => ∃ (c : Nat) (m1 : Nat) (b1 : Nat → Box), (st_ = ⟨mk [(1, .ref (n + 0) 0), (2, .sc (.bool false)), (3, .ref (n + 1) 0), (4, .ref (n + 2) 0), (5, .sc (.int .i64 (i : Int))), (6, .sc (.int .i64 (sA f i : Int))), (7, .sc (.int .i64 (sN f i : Int))), (8, .sc (.int .i64 (c : Int))), (30, .sc (.int .i64 (f 0 : Int))), (31, .sc (.int .i64 (i : Int))), (32, .sc (.bool true)), (33, .sc (.int .i64 (i : Int))), (34, .tup [.sc (.int .i64 (sA f i : Int)), .sc (.int .i64 (sN f i : Int))]), (35, .agg (pgC f)), (36, .sc (.int .i64 (i : Int))), (37, .tup [.sc (.int .i64 (sA f i : Int)), .sc (.int .i64 (sN f i : Int))]), (38, .sc (.int .i64 (sA f i : Int))), (39, .sc (.int .i64 (sN f i : Int))), (40, .sc (.int .i64 (sA f i : Int))), (41, .sc (.bool false)), (42, .sc (.bool false)), (43, .sc undef), (44, .sc undef), (45, .sc (.bool false)), (46, .sc (.bool false)), (47, .sc (.int .i64 (sA f i : Int))), (48, .sc (.bool true)), (49, .sc (.bool true)), (50, .sc (.int .i64 (sA f i : Int))), (51, .agg (pgC f)), (52, .sc (.int .i64 (f 1 : Int))), (53, .sc (.bool false)), (54, .sc (.bool false)), (55, .sc (.int .i64 (sA f i : Int))), (56, .sc (.int .i64 (sN f i : Int))), (57, .sc (.int .i64 ((sA f i : Int) + (sN f i : Int)))), (58, .sc (.bool false)), (59, .sc (.bool false)), (60, .sc (.bool false)), (61, .sc (.bool false)), (62, .sc (.int .i64 (sA f i : Int)))], m1, b1⟩) ∧ (ri_ = 1 + (sA f i + sN f i - c)) ∧ (m0 + 0 ≤ m1) ∧ (∀ k_, k_ < n → b1 k_ = bx k_) ∧ (b1 (n + 0) = .cells (pgC f)) ∧ (b1 (n + 1) = .cells (pgC f)) ∧ (b1 (n + 2) = .cells (mtC (mid f i c))) ∧ (sA f i ≤ c) ∧ (0 < sA f i → c ≤ sA f i + sN f i)) (1 + (sA f i + sN f i - (sA f i))) ⟨_, sle ?_ (Nat.le_refl _), (sA f i), _, _, rfl, rfl, ?_⟩ ?_
                    · (repeat' (first | exact trivial | refine ⟨⟨_, rfl, ?_⟩, ?_⟩ | fail)); all_goals (repeat' (first | exact VLe.refl _ | exact VLe.own_sl _ _ _ | exact VLe.fl_sl _ _ | exact VLe.nil_sl _ | exact VLe.nil_fl _ | exact VLes.refl _ | exact .nil | refine VLe.tup ?_ | refine VLe.agg ?_ | refine .cons ?_ ?_ | (rw [Int.natCast_add]; exact VLe.refl _) | exact vle_int (by omega) | exact vle_bool (by first | rfl | assumption | (simp_all; done) | fail) | (rw [← hs1_]; exact VLe.refl _) | (rw [hs1_]; exact VLe.refl _) | fail))
                    · exact ⟨by omega, (fun k_ hk_ => by repeat (first | exact rfl | refine uN (by omega) ?_ | assumption | exact hf0 _ (by omega) | fail)), by first | ((repeat (first | exact uE | assumption | refine uN (by omega) ?_ | fail)); done) | exact tl_eq (by repeat (first | exact uE | assumption | refine uN (by omega) ?_ | fail)) (by first | rfl | (simp [bytesV, beB_len]; done) | (simp [bytesV, beB_len]; omega) | omega) | (rw [← hs1_]; (repeat (first | exact uE | assumption | refine uN (by omega) ?_ | fail)); done), by first | ((repeat (first | exact uE | assumption | refine uN (by omega) ?_ | fail)); done) | exact tl_eq (by repeat (first | exact uE | assumption | refine uN (by omega) ?_ | fail)) (by first | rfl | (simp [bytesV, beB_len]; done) | (simp [bytesV, beB_len]; omega) | omega) | (rw [← hs1_]; (repeat (first | exact uE | assumption | refine uN (by omega) ?_ | fail)); done), by first | ((repeat (first | exact uE | assumption | refine uN (by omega) ?_ | fail)); done) | exact tl_eq (by repeat (first | exact uE | assumption | refine uN (by omega) ?_ | fail)) (by first | rfl | (simp [bytesV, beB_len]; done) | (simp [bytesV, beB_len]; omega) | omega) | (rw [← hs1_]; (repeat (first | exact uE | assumption | refine uN (by omega) ?_ | fail)); done), by omega, by omega⟩
                    · rintro _ _ ⟨c, m1, b1, rfl, rfl, hm1, hf1, hB1_0, hB1_1, hB1_2, hF1_0, hF1_1⟩
                      refine runs_know (fun hd1 => ?_)
                      refine runs_bump 20 ?_
                      simp only at hd1
                      refine runs_seq ?_
                      refine runs_seq ?_
                      refine runs_region ?_
                      refine rl0 (gn rfl) rfl rfl (step_mv rfl rfl) trivial ?_
                      refine rl_gtr (gn rfl) rfl rfl rfl rfl rfl (fun h9 => ?_) (fun h9 => ?_)
                      · skip
                        refine rl0 (gn rfl) rfl rfl (step_mv rfl rfl) trivial ?_
                        refine rl0 (gy rfl rfl rfl rfl rfl rfl) rfl rfl (step_mv rfl rfl) trivial ?_
                        refine rl0 (gy rfl rfl rfl rfl rfl rfl) rfl rfl (step_mv rfl rfl) trivial ?_
                        refine rl0 (gy rfl rfl rfl rfl rfl rfl) rfl rfl (step_mv rfl rfl) trivial ?_
                        refine rl0 (gy rfl rfl rfl rfl rfl rfl) rfl rfl (step_add rfl (ev_mk rfl) (ev_mk rfl) (w64 (by omega))) trivial ?_
                        refine rl_lss (gy rfl rfl rfl rfl rfl rfl) rfl rfl rfl rfl rfl (fun h10 => ?_) (fun h10 => ?_)
                        · skip
                          refine rl0 (gn rfl) rfl rfl (step_pick rfl (ev_mk rfl) (ev_mk rfl)) trivial ?_
                          refine runsL_nil ?_
                          refine runs_cond true (ev_mk rfl) (fun _ => ?_) (fun h_ => nomatch h_)
                          refine runs_skip ?_
                          refine runs_seq ?_
                          refine runs_block ?_
                          refine runs_region ?_
                          have hcl_ := cnt_le f i c
                          have hmc_ := mid_c f i c
                          refine rl0 (gn rfl) rfl rfl (step_mv rfl rfl) trivial ?_
                          refine rl0 (gn rfl) rfl rfl (step_index_arr rfl (ev_mk rfl) (ev_mk rfl) Try.underlying64 F.sz3 (by omega) (by omega)) trivial ?_
                          refine' rl0 (gn rfl) rfl rfl (step_load_one (v := .sc (.int .i64 (mid f i c c : Int))) rfl (ev_mk rfl) F.one3 ?hv) ⟨?hb, trivial⟩ ?_
                          case hb => repeat (first | exact uE | refine uN (by omega) ?_ | assumption | exact hd _ (by omega) | exact hd0 _ (by omega) | exact hd1 _ (by omega) | fail)
                          case hv => exact mt_q (by omega) (by omega)
                          refine rl0 (gn rfl) rfl rfl (step_add rfl (ev_mk rfl) (ev_mk rfl) (w64 (by omega))) trivial ?_
                          refine rl0 (gn rfl) rfl rfl (step_index_arr rfl (ev_mk rfl) (ev_mk rfl) Try.underlying64 F.sz3 (by omega) (by omega)) trivial ?_
                          refine' rls (gn rfl) rfl (step_store1 (cs' := mtC (mid f i (c + 1))) rfl rfl rfl rfl F.one3 rfl rfl ?hl ?hc) ⟨?hb, trivial⟩ ?hk ?_
                          case hb => repeat (first | exact uE | refine uN (by omega) ?_ | assumption | exact hd _ (by omega) | exact hd0 _ (by omega) | exact hd1 _ (by omega) | fail)
                          case hl => (rw [mtC_len]; omega)
                          case hc => (rw [show ((mid f i c c : Nat) : Int) + 1 = ((mid f i c c + 1 : Nat) : Int) by omega, mt_set (k := c) (by omega)]; exact mid_s (by omega) (by omega))
                          case hk => omega
                          refine runsL_nil ?_
                          refine runs_region ?_
                          refine rl0 (gn rfl) rfl rfl (step_mv rfl rfl) trivial ?_
                          refine rl0 (gn rfl) rfl rfl (step_add rfl (ev_mk rfl) (ev_mk rfl) (w64 (by omega))) trivial ?_
                          refine rl0 (gn rfl) rfl rfl (step_as rfl rfl) trivial ?_
                          refine runsL_nil ?_
                          refine ⟨_, _, ?_, sle ?_ (Nat.le_refl _), (c + 1), _, _, rfl, rfl, by omega, (fun k_ hk_ => by repeat (first | exact hf1 k_ hk_ | exact hf0 k_ hk_ | refine uN (by first | assumption | omega) ?_ | fail)), by first | ((repeat (first | exact uE | assumption | refine uN (by omega) ?_ | fail)); done) | exact tl_eq (by repeat (first | exact uE | assumption | refine uN (by omega) ?_ | fail)) (by first | rfl | (simp [bytesV, beB_len]; done) | (simp [bytesV, beB_len]; omega) | omega), by first | ((repeat (first | exact uE | assumption | refine uN (by omega) ?_ | fail)); done) | exact tl_eq (by repeat (first | exact uE | assumption | refine uN (by omega) ?_ | fail)) (by first | rfl | (simp [bytesV, beB_len]; done) | (simp [bytesV, beB_len]; omega) | omega), by first | ((repeat (first | exact uE | assumption | refine uN (by omega) ?_ | fail)); done) | exact tl_eq (by repeat (first | exact uE | assumption | refine uN (by omega) ?_ | fail)) (by first | rfl | (simp [bytesV, beB_len]; done) | (simp [bytesV, beB_len]; omega) | omega), by omega, by omega⟩
                          · omega
                          · (repeat' (first | exact trivial | refine ⟨⟨_, rfl, ?_⟩, ?_⟩ | fail)); all_goals (repeat' (first | exact VLe.refl _ | exact VLe.own_sl _ _ _ | exact VLe.fl_sl _ _ | exact VLe.nil_sl _ | exact VLe.nil_fl _ | exact VLes.refl _ | exact .nil | refine VLe.tup ?_ | refine VLe.agg ?_ | refine .cons ?_ ?_ | (rw [Int.natCast_add]; exact VLe.refl _) | exact vle_int (by omega) | exact vle_bool (by first | rfl | assumption | (simp_all; done) | fail) | fail))
                        · skip
                          refine rl0 (gn rfl) rfl rfl (step_pick rfl (ev_mk rfl) (ev_mk rfl)) trivial ?_
                          refine runsL_nil ?_
                          refine runs_cond false (ev_mk rfl) (fun h_ => nomatch h_) (fun _ => ?_)
                          refine runs_exit ?_
                          refine runs_region ?_
                          refine rl0 (gn rfl) rfl rfl (step_add rfl (ev_mk rfl) (ev_mk rfl) (w64 (by omega))) trivial ?_
                          refine rl0 (gn rfl) rfl rfl (step_mv rfl rfl) trivial ?_
                          refine runsL_nil ?_
                          have hq1_ : mtC (mid f i c) = mtC (cnt f (i + 1)) := by exact mid_e (by omega)
                          refine ⟨_, _, ?_, sle ?_ (Nat.le_refl _), (i + 1), _, _, rfl, rfl, by omega, (fun k_ hk_ => by repeat (first | exact hf0 k_ hk_ | exact hf1 k_ hk_ | refine uN (by first | assumption | omega) ?_ | fail)), by first | ((repeat (first | exact uE | assumption | refine uN (by omega) ?_ | fail)); done) | exact tl_eq (by repeat (first | exact uE | assumption | refine uN (by omega) ?_ | fail)) (by first | rfl | (simp [bytesV, beB_len]; done) | (simp [bytesV, beB_len]; omega) | omega) | (rw [← hq1_]; (repeat (first | exact uE | assumption | refine uN (by omega) ?_ | fail)); done), by first | ((repeat (first | exact uE | assumption | refine uN (by omega) ?_ | fail)); done) | exact tl_eq (by repeat (first | exact uE | assumption | refine uN (by omega) ?_ | fail)) (by first | rfl | (simp [bytesV, beB_len]; done) | (simp [bytesV, beB_len]; omega) | omega) | (rw [← hq1_]; (repeat (first | exact uE | assumption | refine uN (by omega) ?_ | fail)); done), by first | ((repeat (first | exact uE | assumption | refine uN (by omega) ?_ | fail)); done) | exact tl_eq (by repeat (first | exact uE | assumption | refine uN (by omega) ?_ | fail)) (by first | rfl | (simp [bytesV, beB_len]; done) | (simp [bytesV, beB_len]; omega) | omega) | (rw [← hq1_]; (repeat (first | exact uE | assumption | refine uN (by omega) ?_ | fail)); done), by omega, hno_⟩
                          · omega
                          · (repeat' (first | exact trivial | refine ⟨⟨_, rfl, ?_⟩, ?_⟩ | fail)); all_goals (repeat' (first | exact VLe.refl _ | exact VLe.own_sl _ _ _ | exact VLe.fl_sl _ _ | exact VLe.nil_sl _ | exact VLe.nil_fl _ | exact VLes.refl _ | exact .nil | refine VLe.tup ?_ | refine VLe.agg ?_ | refine .cons ?_ ?_ | (rw [Int.natCast_add]; exact VLe.refl _) | exact vle_int (by omega) | exact vle_bool (by first | rfl | assumption | (simp_all; done) | fail) | (rw [← hq1_]; exact VLe.refl _) | (rw [hq1_]; exact VLe.refl _) | fail))
                      · skip
                        refine rl0 (gn rfl) rfl rfl (step_mv rfl rfl) trivial ?_
                        refine rlk rfl rfl rfl rfl rfl (ngb rfl rfl) rfl rfl ?_
                        refine rlk rfl rfl rfl rfl rfl (ngb rfl rfl) rfl rfl ?_
                        refine rlk rfl rfl rfl rfl rfl (ngb rfl rfl) rfl rfl ?_
                        refine rlk rfl rfl rfl rfl rfl (ngb rfl rfl) rfl rfl ?_
                        refine rlk rfl rfl rfl rfl rfl (ngb rfl rfl) rfl rfl ?_
                        refine rl0 (gn rfl) rfl rfl (step_pick rfl (ev_mk rfl) (ev_mk rfl)) trivial ?_
                        refine runsL_nil ?_
                        refine runs_cond false (ev_mk rfl) (fun h_ => nomatch h_) (fun _ => ?_)
                        refine runs_exit ?_
                        refine runs_region ?_
                        refine rl0 (gn rfl) rfl rfl (step_add rfl (ev_mk rfl) (ev_mk rfl) (w64 (by omega))) trivial ?_
                        refine rl0 (gn rfl) rfl rfl (step_mv rfl rfl) trivial ?_
                        refine runsL_nil ?_
                        have hq1_ : mtC (mid f i c) = mtC (cnt f (i + 1)) := by exact mid_e (by omega)
                        refine ⟨_, _, ?_, sle ?_ (Nat.le_refl _), (i + 1), _, _, rfl, rfl, by omega, (fun k_ hk_ => by repeat (first | exact hf0 k_ hk_ | exact hf1 k_ hk_ | refine uN (by first | assumption | omega) ?_ | fail)), by first | ((repeat (first | exact uE | assumption | refine uN (by omega) ?_ | fail)); done) | exact tl_eq (by repeat (first | exact uE | assumption | refine uN (by omega) ?_ | fail)) (by first | rfl | (simp [bytesV, beB_len]; done) | (simp [bytesV, beB_len]; omega) | omega) | (rw [← hq1_]; (repeat (first | exact uE | assumption | refine uN (by omega) ?_ | fail)); done), by first | ((repeat (first | exact uE | assumption | refine uN (by omega) ?_ | fail)); done) | exact tl_eq (by repeat (first | exact uE | assumption | refine uN (by omega) ?_ | fail)) (by first | rfl | (simp [bytesV, beB_len]; done) | (simp [bytesV, beB_len]; omega) | omega) | (rw [← hq1_]; (repeat (first | exact uE | assumption | refine uN (by omega) ?_ | fail)); done), by first | ((repeat (first | exact uE | assumption | refine uN (by omega) ?_ | fail)); done) | exact tl_eq (by repeat (first | exact uE | assumption | refine uN (by omega) ?_ | fail)) (by first | rfl | (simp [bytesV, beB_len]; done) | (simp [bytesV, beB_len]; omega) | omega) | (rw [← hq1_]; (repeat (first | exact uE | assumption | refine uN (by omega) ?_ | fail)); done), by omega, hno_⟩
                        · omega
                        · (repeat' (first | exact trivial | refine ⟨⟨_, rfl, ?_⟩, ?_⟩ | fail)); all_goals (repeat' (first | exact VLe.refl _ | exact VLe.own_sl _ _ _ | exact VLe.fl_sl _ _ | exact VLe.nil_sl _ | exact VLe.nil_fl _ | exact VLes.refl _ | exact .nil | refine VLe.tup ?_ | refine VLe.agg ?_ | refine .cons ?_ ?_ | (rw [Int.natCast_add]; exact VLe.refl _) | exact vle_int (by omega) | exact vle_bool (by first | rfl | assumption | (simp_all; done) | fail) | (rw [← hq1_]; exact VLe.refl _) | (rw [hq1_]; exact VLe.refl _) | fail))
              · skip
                refine rl0 (gy rfl rfl rfl rfl rfl rfl) rfl rfl (step_mv rfl rfl) trivial ?_
                refine rlk rfl rfl rfl rfl rfl (ngb rfl rfl) rfl rfl ?_
                refine rlk rfl rfl rfl rfl rfl (ngb rfl rfl) rfl rfl ?_
                refine rlk rfl rfl rfl rfl rfl (ngb rfl rfl) rfl rfl ?_
                refine rlk rfl rfl rfl rfl rfl (ngb rfl rfl) rfl rfl ?_
                refine rlk rfl rfl rfl rfl rfl (ngb rfl rfl) rfl rfl ?_
                refine rlk rfl rfl rfl rfl rfl (ngu rfl) rfl rfl ?_
                refine rlk rfl rfl rfl rfl rfl (ngu rfl) rfl rfl ?_
                refine rlk rfl rfl rfl rfl rfl (ngu rfl) rfl rfl ?_
                refine rlk rfl rfl rfl rfl rfl (ngu rfl) rfl rfl ?_
                refine rlk rfl rfl rfl rfl rfl (ngb rfl rfl) rfl rfl ?_
                refine rl0 (gy rfl rfl rfl rfl rfl rfl) rfl rfl (step_pick rfl (ev_mk rfl) (ev_mk rfl)) trivial ?_
                refine rl0 (gn rfl) rfl rfl (step_pick rfl (ev_mk rfl) (ev_mk rfl)) trivial ?_
                refine runsL_nil ?_
                refine runs_cond false (ev_mk rfl) (fun h_ => nomatch h_) (fun _ => ?_)
                refine runs_skip ?_
                refine runs_seq ?_
                refine runs_region ?_
                have hok_ : okS f i = true := okS_iff.2 (by omega)
                have hno_ : ∀ j, j < i + 1 → okS f j = true := fun j hj => (by rcases Nat.lt_or_ge j i with q | q; exact hF0_1 j q; (obtain rfl : j = i := by omega); exact hok_)
                refine rl0 (gn rfl) rfl rfl (step_mv rfl rfl) trivial ?_
                refine rl0 (gn rfl) rfl rfl (step_as rfl rfl) trivial ?_
                refine runsL_nil ?_
                refine runs_block ?_
                have hs1_ : mtC (cnt f i) = mtC (mid f i (sA f i)) := by exact mid_0 f i
                refine runs_loop (fun (ri_ : Nat) (st_ : Go.Vm.S) => ∃ (c : Nat) (m1 : Nat) (b1 : Nat → Box), (st_ = ⟨mk [(1, .ref (n + 0) 0), (2, .sc (.bool false)), (3, .ref (n + 1) 0), (4, .ref (n + 2) 0), (5, .sc (.int .i64 (i : Int))), (6, .sc (.int .i64 (sA f i : Int))), (7, .sc (.int .i64 (sN f i : Int))), (8, .sc (.int .i64 (c : Int))), (30, .sc (.int .i64 (f 0 : Int))), (31, .sc (.int .i64 (i : Int))), (32, .sc (.bool true)), (33, .sc (.int .i64 (i : Int))), (34, .tup [.sc (.int .i64 (sA f i : Int)), .sc (.int .i64 (sN f i : Int))]), (35, .agg (pgC f)), (36, .sc (.int .i64 (i : Int))), (37, .tup [.sc (.int .i64 (sA f i : Int)), .sc (.int .i64 (sN f i : Int))]), (38, .sc (.int .i64 (sA f i : Int))), (39, .sc (.int .i64 (sN f i : Int))), (40, .sc (.int .i64 (sA f i : Int))), (41, .sc (.bool false)), (42, .sc (.bool false)), (43, .sc undef), (44, .sc undef), (45, .sc (.bool false)), (46, .sc (.bool false)), (47, .sc (.int .i64 (sA f i : Int))), (48, .sc (.bool false)), (49, .sc (.bool false)), (50, .sc undef), (51, .sc undef), (52, .sc undef), (53, .sc undef), (54, .sc undef), (55, .sc undef), (56, .sc undef), (57, .sc undef), (58, .sc undef), (59, .sc undef), (60, .sc (.bool false)), (61, .sc (.bool false)), (62, .sc (.int .i64 (sA f i : Int)))], m1, b1⟩) ∧ (ri_ = 1 + (sA f i + sN f i - c)) ∧ (m0 + 0 ≤ m1) ∧ (∀ k_, k_ < n → b1 k_ = bx k_) ∧ (b1 (n + 0) = .cells (pgC f)) ∧ (b1 (n + 1) = .cells (pgC f)) ∧ (b1 (n + 2) = .cells (mtC (mid f i c))) ∧ (sA f i ≤ c) ∧ (0 < sA f i → c ≤ sA f i + sN f i)) (1 + (sA f i + sN f i - (sA f i))) ⟨_, sle ?_ (Nat.le_refl _), (sA f i), _, _, rfl, rfl, ?_⟩ ?_
                · (repeat' (first | exact trivial | refine ⟨⟨_, rfl, ?_⟩, ?_⟩ | fail)); all_goals (repeat' (first | exact VLe.refl _ | exact VLe.own_sl _ _ _ | exact VLe.fl_sl _ _ | exact VLe.nil_sl _ | exact VLe.nil_fl _ | exact VLes.refl _ | exact .nil | refine VLe.tup ?_ | refine VLe.agg ?_ | refine .cons ?_ ?_ | (rw [Int.natCast_add]; exact VLe.refl _) | exact vle_int (by omega) | exact vle_bool (by first | rfl | assumption | (simp_all; done) | fail) | (rw [← hs1_]; exact VLe.refl _) | (rw [hs1_]; exact VLe.refl _) | fail))
                · exact ⟨by omega, (fun k_ hk_ => by repeat (first | exact rfl | refine uN (by omega) ?_ | assumption | exact hf0 _ (by omega) | fail)), by first | ((repeat (first | exact uE | assumption | refine uN (by omega) ?_ | fail)); done) | exact tl_eq (by repeat (first | exact uE | assumption | refine uN (by omega) ?_ | fail)) (by first | rfl | (simp [bytesV, beB_len]; done) | (simp [bytesV, beB_len]; omega) | omega) | (rw [← hs1_]; (repeat (first | exact uE | assumption | refine uN (by omega) ?_ | fail)); done), by first | ((repeat (first | exact uE | assumption | refine uN (by omega) ?_ | fail)); done) | exact tl_eq (by repeat (first | exact uE | assumption | refine uN (by omega) ?_ | fail)) (by first | rfl | (simp [bytesV, beB_len]; done) | (simp [bytesV, beB_len]; omega) | omega) | (rw [← hs1_]; (repeat (first | exact uE | assumption | refine uN (by omega) ?_ | fail)); done), by first | ((repeat (first | exact uE | assumption | refine uN (by omega) ?_ | fail)); done) | exact tl_eq (by repeat (first | exact uE | assumption | refine uN (by omega) ?_ | fail)) (by first | rfl | (simp [bytesV, beB_len]; done) | (simp [bytesV, beB_len]; omega) | omega) | (rw [← hs1_]; (repeat (first | exact uE | assumption | refine uN (by omega) ?_ | fail)); done), by omega, by omega⟩
                · rintro _ _ ⟨c, m1, b1, rfl, rfl, hm1, hf1, hB1_0, hB1_1, hB1_2, hF1_0, hF1_1⟩
                  refine runs_know (fun hd1 => ?_)
                  refine runs_bump 20 ?_
                  simp only at hd1
                  refine runs_seq ?_
                  refine runs_seq ?_
                  refine runs_region ?_
                  refine rl0 (gn rfl) rfl rfl (step_mv rfl rfl) trivial ?_
                  refine rl_gtr (gn rfl) rfl rfl rfl rfl rfl (fun h7 => ?_) (fun h7 => ?_)
                  · skip
                    refine rl0 (gn rfl) rfl rfl (step_mv rfl rfl) trivial ?_
                    refine rl0 (gy rfl rfl rfl rfl rfl rfl) rfl rfl (step_mv rfl rfl) trivial ?_
                    refine rl0 (gy rfl rfl rfl rfl rfl rfl) rfl rfl (step_mv rfl rfl) trivial ?_
                    refine rl0 (gy rfl rfl rfl rfl rfl rfl) rfl rfl (step_mv rfl rfl) trivial ?_
                    refine rl0 (gy rfl rfl rfl rfl rfl rfl) rfl rfl (step_add rfl (ev_mk rfl) (ev_mk rfl) (w64 (by omega))) trivial ?_
                    refine rl_lss (gy rfl rfl rfl rfl rfl rfl) rfl rfl rfl rfl rfl (fun h8 => ?_) (fun h8 => ?_)
                    · skip
                      refine rl0 (gn rfl) rfl rfl (step_pick rfl (ev_mk rfl) (ev_mk rfl)) trivial ?_
                      refine runsL_nil ?_
                      refine runs_cond true (ev_mk rfl) (fun _ => ?_) (fun h_ => nomatch h_)
                      refine runs_skip ?_
                      refine runs_seq ?_
                      refine runs_block ?_
                      refine runs_region ?_
                      have hcl_ := cnt_le f i c
                      have hmc_ := mid_c f i c
                      refine rl0 (gn rfl) rfl rfl (step_mv rfl rfl) trivial ?_
                      refine rl0 (gn rfl) rfl rfl (step_index_arr rfl (ev_mk rfl) (ev_mk rfl) Try.underlying64 F.sz3 (by omega) (by omega)) trivial ?_
                      refine' rl0 (gn rfl) rfl rfl (step_load_one (v := .sc (.int .i64 (mid f i c c : Int))) rfl (ev_mk rfl) F.one3 ?hv) ⟨?hb, trivial⟩ ?_
                      case hb => repeat (first | exact uE | refine uN (by omega) ?_ | assumption | exact hd _ (by omega) | exact hd0 _ (by omega) | exact hd1 _ (by omega) | fail)
                      case hv => exact mt_q (by omega) (by omega)
                      refine rl0 (gn rfl) rfl rfl (step_add rfl (ev_mk rfl) (ev_mk rfl) (w64 (by omega))) trivial ?_
                      refine rl0 (gn rfl) rfl rfl (step_index_arr rfl (ev_mk rfl) (ev_mk rfl) Try.underlying64 F.sz3 (by omega) (by omega)) trivial ?_
                      refine' rls (gn rfl) rfl (step_store1 (cs' := mtC (mid f i (c + 1))) rfl rfl rfl rfl F.one3 rfl rfl ?hl ?hc) ⟨?hb, trivial⟩ ?hk ?_
                      case hb => repeat (first | exact uE | refine uN (by omega) ?_ | assumption | exact hd _ (by omega) | exact hd0 _ (by omega) | exact hd1 _ (by omega) | fail)
                      case hl => (rw [mtC_len]; omega)
                      case hc => (rw [show ((mid f i c c : Nat) : Int) + 1 = ((mid f i c c + 1 : Nat) : Int) by omega, mt_set (k := c) (by omega)]; exact mid_s (by omega) (by omega))
                      case hk => omega
                      refine runsL_nil ?_
                      refine runs_region ?_
                      refine rl0 (gn rfl) rfl rfl (step_mv rfl rfl) trivial ?_
                      refine rl0 (gn rfl) rfl rfl (step_add rfl (ev_mk rfl) (ev_mk rfl) (w64 (by omega))) trivial ?_
                      refine rl0 (gn rfl) rfl rfl (step_as rfl rfl) trivial ?_
                      refine runsL_nil ?_
                      refine ⟨_, _, ?_, sle ?_ (Nat.le_refl _), (c + 1), _, _, rfl, rfl, by omega, (fun k_ hk_ => by repeat (first | exact hf1 k_ hk_ | exact hf0 k_ hk_ | refine uN (by first | assumption | omega) ?_ | fail)), by first | ((repeat (first | exact uE | assumption | refine uN (by omega) ?_ | fail)); done) | exact tl_eq (by repeat (first | exact uE | assumption | refine uN (by omega) ?_ | fail)) (by first | rfl | (simp [bytesV, beB_len]; done) | (simp [bytesV, beB_len]; omega) | omega), by first | ((repeat (first | exact uE | assumption | refine uN (by omega) ?_ | fail)); done) | exact tl_eq (by repeat (first | exact uE | assumption | refine uN (by omega) ?_ | fail)) (by first | rfl | (simp [bytesV, beB_len]; done) | (simp [bytesV, beB_len]; omega) | omega), by first | ((repeat (first | exact uE | assumption | refine uN (by omega) ?_ | fail)); done) | exact tl_eq (by repeat (first | exact uE | assumption | refine uN (by omega) ?_ | fail)) (by first | rfl | (simp [bytesV, beB_len]; done) | (simp [bytesV, beB_len]; omega) | omega), by omega, by omega⟩
                      · omega
                      · (repeat' (first | exact trivial | refine ⟨⟨_, rfl, ?_⟩, ?_⟩ | fail)); all_goals (repeat' (first | exact VLe.refl _ | exact VLe.own_sl _ _ _ | exact VLe.fl_sl _ _ | exact VLe.nil_sl _ | exact VLe.nil_fl _ | exact VLes.refl _ | exact .nil | refine VLe.tup ?_ | refine VLe.agg ?_ | refine .cons ?_ ?_ | (rw [Int.natCast_add]; exact VLe.refl _) | exact vle_int (by omega) | exact vle_bool (by first | rfl | assumption | (simp_all; done) | fail) | fail))
                    · skip
                      refine rl0 (gn rfl) rfl rfl (step_pick rfl (ev_mk rfl) (ev_mk rfl)) trivial ?_
                      refine runsL_nil ?_
                      refine runs_cond false (ev_mk rfl) (fun h_ => nomatch h_) (fun _ => ?_)
                      refine runs_exit ?_
                      refine runs_region ?_
                      refine rl0 (gn rfl) rfl rfl (step_add rfl (ev_mk rfl) (ev_mk rfl) (w64 (by omega))) trivial ?_
                      refine rl0 (gn rfl) rfl rfl (step_mv rfl rfl) trivial ?_
                      refine runsL_nil ?_
                      have hq1_ : mtC (mid f i c) = mtC (cnt f (i + 1)) := by exact mid_e (by omega)
                      refine ⟨_, _, ?_, sle ?_ (Nat.le_refl _), (i + 1), _, _, rfl, rfl, by omega, (fun k_ hk_ => by repeat (first | exact hf0 k_ hk_ | exact hf1 k_ hk_ | refine uN (by first | assumption | omega) ?_ | fail)), by first | ((repeat (first | exact uE | assumption | refine uN (by omega) ?_ | fail)); done) | exact tl_eq (by repeat (first | exact uE | assumption | refine uN (by omega) ?_ | fail)) (by first | rfl | (simp [bytesV, beB_len]; done) | (simp [bytesV, beB_len]; omega) | omega) | (rw [← hq1_]; (repeat (first | exact uE | assumption | refine uN (by omega) ?_ | fail)); done), by first | ((repeat (first | exact uE | assumption | refine uN (by omega) ?_ | fail)); done) | exact tl_eq (by repeat (first | exact uE | assumption | refine uN (by omega) ?_ | fail)) (by first | rfl | (simp [bytesV, beB_len]; done) | (simp [bytesV, beB_len]; omega) | omega) | (rw [← hq1_]; (repeat (first | exact uE | assumption | refine uN (by omega) ?_ | fail)); done), by first | ((repeat (first | exact uE | assumption | refine uN (by omega) ?_ | fail)); done) | exact tl_eq (by repeat (first | exact uE | assumption | refine uN (by omega) ?_ | fail)) (by first | rfl | (simp [bytesV, beB_len]; done) | (simp [bytesV, beB_len]; omega) | omega) | (rw [← hq1_]; (repeat (first | exact uE | assumption | refine uN (by omega) ?_ | fail)); done), by omega, hno_⟩
                      · omega
                      · (repeat' (first | exact trivial | refine ⟨⟨_, rfl, ?_⟩, ?_⟩ | fail)); all_goals (repeat' (first | exact VLe.refl _ | exact VLe.own_sl _ _ _ | exact VLe.fl_sl _ _ | exact VLe.nil_sl _ | exact VLe.nil_fl _ | exact VLes.refl _ | exact .nil | refine VLe.tup ?_ | refine VLe.agg ?_ | refine .cons ?_ ?_ | (rw [Int.natCast_add]; exact VLe.refl _) | exact vle_int (by omega) | exact vle_bool (by first | rfl | assumption | (simp_all; done) | fail) | (rw [← hq1_]; exact VLe.refl _) | (rw [hq1_]; exact VLe.refl _) | fail))
                  · skip
                    refine rl0 (gn rfl) rfl rfl (step_mv rfl rfl) trivial ?_
                    refine rlk rfl rfl rfl rfl rfl (ngb rfl rfl) rfl rfl ?_
                    refine rlk rfl rfl rfl rfl rfl (ngb rfl rfl) rfl rfl ?_
                    refine rlk rfl rfl rfl rfl rfl (ngb rfl rfl) rfl rfl ?_
                    refine rlk rfl rfl rfl rfl rfl (ngb rfl rfl) rfl rfl ?_
                    refine rlk rfl rfl rfl rfl rfl (ngb rfl rfl) rfl rfl ?_
                    refine rl0 (gn rfl) rfl rfl (step_pick rfl (ev_mk rfl) (ev_mk rfl)) trivial ?_
                    refine runsL_nil ?_
                    refine runs_cond false (ev_mk rfl) (fun h_ => nomatch h_) (fun _ => ?_)
                    refine runs_exit ?_
                    refine runs_region ?_
                    refine rl0 (gn rfl) rfl rfl (step_add rfl (ev_mk rfl) (ev_mk rfl) (w64 (by omega))) trivial ?_
                    refine rl0 (gn rfl) rfl rfl (step_mv rfl rfl) trivial ?_
                    refine runsL_nil ?_
                    have hq1_ : mtC (mid f i c) = mtC (cnt f (i + 1)) := by exact mid_e (by omega)
                    refine ⟨_, _, ?_, sle ?_ (Nat.le_refl _), (i + 1), _, _, rfl, rfl, by omega, (fun k_ hk_ => by repeat (first | exact hf0 k_ hk_ | exact hf1 k_ hk_ | refine uN (by first | assumption | omega) ?_ | fail)), by first | ((repeat (first | exact uE | assumption | refine uN (by omega) ?_ | fail)); done) | exact tl_eq (by repeat (first | exact uE | assumption | refine uN (by omega) ?_ | fail)) (by first | rfl | (simp [bytesV, beB_len]; done) | (simp [bytesV, beB_len]; omega) | omega) | (rw [← hq1_]; (repeat (first | exact uE | assumption | refine uN (by omega) ?_ | fail)); done), by first | ((repeat (first | exact uE | assumption | refine uN (by omega) ?_ | fail)); done) | exact tl_eq (by repeat (first | exact uE | assumption | refine uN (by omega) ?_ | fail)) (by first | rfl | (simp [bytesV, beB_len]; done) | (simp [bytesV, beB_len]; omega) | omega) | (rw [← hq1_]; (repeat (first | exact uE | assumption | refine uN (by omega) ?_ | fail)); done), by first | ((repeat (first | exact uE | assumption | refine uN (by omega) ?_ | fail)); done) | exact tl_eq (by repeat (first | exact uE | assumption | refine uN (by omega) ?_ | fail)) (by first | rfl | (simp [bytesV, beB_len]; done) | (simp [bytesV, beB_len]; omega) | omega) | (rw [← hq1_]; (repeat (first | exact uE | assumption | refine uN (by omega) ?_ | fail)); done), by omega, hno_⟩
                    · omega
                    · (repeat' (first | exact trivial | refine ⟨⟨_, rfl, ?_⟩, ?_⟩ | fail)); all_goals (repeat' (first | exact VLe.refl _ | exact VLe.own_sl _ _ _ | exact VLe.fl_sl _ _ | exact VLe.nil_sl _ | exact VLe.nil_fl _ | exact VLes.refl _ | exact .nil | refine VLe.tup ?_ | refine VLe.agg ?_ | refine .cons ?_ ?_ | (rw [Int.natCast_add]; exact VLe.refl _) | exact vle_int (by omega) | exact vle_bool (by first | rfl | assumption | (simp_all; done) | fail) | (rw [← hq1_]; exact VLe.refl _) | (rw [hq1_]; exact VLe.refl _) | fail))
          · skip
            obtain rfl : i = (f 0) := by omega
            refine runsL_nil ?_
            refine runs_seq ?_
            refine runs_cond false (ev_mk rfl) (fun h_ => nomatch h_) (fun _ => ?_)
            refine runs_exit ?_
            refine runs_seq ?_
            refine runs_seq ?_
            refine runs_region ?_
            refine' rl0 (gn rfl) rfl rfl (step_load_all rfl rfl F.agg27 ?hl) ⟨?hb, trivial⟩ ?_
            case hb => repeat (first | exact uE | refine uN (by omega) ?_ | assumption | exact hd _ (by omega) | exact hd0 _ (by omega) | fail)
            case hl => first | rfl | (simp; done) | (first | exact pgC_len _ | exact mtC_len _ | (simp; done) | (rw [pgC_len]; omega) | (rw [mtC_len]; omega) | omega)
            refine rl0 (gn rfl) rfl rfl (step_callc rfl Try.func13 rfl rfl rfl (len_c f hb) (by repeat (first | exact .nil | refine .cons ?_ ?_ | exact VLe.refl _ | exact VLe.own_sl _ _ _ | exact VLe.fl_sl _ _ | exact VLe.nil_sl _ | exact vle_int (by omega)))) trivial ?_
            refine rl0 (gn rfl) rfl rfl (step_mul rfl (ev_mk rfl) (ev_mk rfl) (w64 (by omega))) trivial ?_
            refine rl0 (gn rfl) rfl rfl (step_add rfl (ev_mk rfl) (ev_mk rfl) (w64 (by omega))) trivial ?_
            refine rl0 (gn rfl) rfl rfl (step_as rfl rfl) trivial ?_
            refine runsL_nil ?_
            refine runs_block ?_
            have hs0_ : (2 + (2 * (f 0 : Int))) = ((2 + 2 * f 0) : Int) := by omega
            refine runs_loop (fun (ri_ : Nat) (st_ : Go.Vm.S) => ∃ (e : Nat) (m2 : Nat) (b2 : Nat → Box), (st_ = ⟨mk [(1, .ref (n + 0) 0), (2, .sc (.bool false)), (4, .ref (n + 2) 0), (9, .sc (.int .i64 (e : Int)))], m2, b2⟩) ∧ (ri_ = 1 + (224 - e)) ∧ (m0 + 0 ≤ m2) ∧ (∀ k_, k_ < n → b2 k_ = bx k_) ∧ (b2 (n + 0) = .cells (pgC f)) ∧ (b2 (n + 1) = .cells (pgC f)) ∧ (b2 (n + 2) = .cells (mtC (cnt f (f 0)))) ∧ (2 + 2 * f 0 ≤ e) ∧ (e ≤ 224) ∧ (∀ q, 2 + 2 * f 0 ≤ q → q < e → okK f q = true)) (1 + (224 - (2 + 2 * f 0))) ⟨_, sle ?_ (Nat.le_refl _), (2 + 2 * f 0), _, _, rfl, rfl, ?_⟩ ?_
            · (repeat' (first | exact trivial | refine ⟨⟨_, rfl, ?_⟩, ?_⟩ | fail)); all_goals (repeat' (first | exact VLe.refl _ | exact VLe.own_sl _ _ _ | exact VLe.fl_sl _ _ | exact VLe.nil_sl _ | exact VLe.nil_fl _ | exact VLes.refl _ | exact .nil | refine VLe.tup ?_ | refine VLe.agg ?_ | refine .cons ?_ ?_ | (rw [Int.natCast_add]; exact VLe.refl _) | exact vle_int (by omega) | exact vle_bool (by first | rfl | assumption | (simp_all; done) | fail) | (rw [← hs0_]; exact VLe.refl _) | (rw [hs0_]; exact VLe.refl _) | fail))
            · exact ⟨by omega, (fun k_ hk_ => by repeat (first | exact rfl | refine uN (by omega) ?_ | assumption | exact hf0 _ (by omega) | fail)), by first | ((repeat (first | exact uE | assumption | refine uN (by omega) ?_ | fail)); done) | exact tl_eq (by repeat (first | exact uE | assumption | refine uN (by omega) ?_ | fail)) (by first | rfl | (simp [bytesV, beB_len]; done) | (simp [bytesV, beB_len]; omega) | omega) | (rw [← hs0_]; (repeat (first | exact uE | assumption | refine uN (by omega) ?_ | fail)); done), by first | ((repeat (first | exact uE | assumption | refine uN (by omega) ?_ | fail)); done) | exact tl_eq (by repeat (first | exact uE | assumption | refine uN (by omega) ?_ | fail)) (by first | rfl | (simp [bytesV, beB_len]; done) | (simp [bytesV, beB_len]; omega) | omega) | (rw [← hs0_]; (repeat (first | exact uE | assumption | refine uN (by omega) ?_ | fail)); done), by first | ((repeat (first | exact uE | assumption | refine uN (by omega) ?_ | fail)); done) | exact tl_eq (by repeat (first | exact uE | assumption | refine uN (by omega) ?_ | fail)) (by first | rfl | (simp [bytesV, beB_len]; done) | (simp [bytesV, beB_len]; omega) | omega) | (rw [← hs0_]; (repeat (first | exact uE | assumption | refine uN (by omega) ?_ | fail)); done), by omega, by omega, fun q h1 h2 => by omega⟩
            · rintro _ _ ⟨e, m2, b2, rfl, rfl, hm2, hf2, hB2_0, hB2_1, hB2_2, hF2_0, hF2_1, hF2_2⟩
              refine runs_know (fun hd2 => ?_)
              refine runs_bump 20 ?_
              simp only at hd2
              refine runs_seq ?_
              refine runs_seq ?_
              refine runs_region ?_
              refine rl0 (gn rfl) rfl rfl (step_mv rfl rfl) trivial ?_
              refine rl_lss (gn rfl) rfl rfl rfl rfl rfl (fun h5 => ?_) (fun h5 => ?_)
              · skip
                refine runsL_nil ?_
                refine runs_cond true (ev_mk rfl) (fun _ => ?_) (fun h_ => nomatch h_)
                refine runs_skip ?_
                refine runs_seq ?_
                refine runs_block ?_
                refine runs_seq ?_
                refine runs_region ?_
                refine rl0 (gn rfl) rfl rfl (step_mv rfl rfl) trivial ?_
                refine rl0 (gn rfl) rfl rfl (step_index_arr rfl (ev_mk rfl) (ev_mk rfl) Try.underlying64 F.sz3 (by omega) (by omega)) trivial ?_
                refine' rl0 (gn rfl) rfl rfl (step_load_one (v := .sc (.int .i64 (cnt f (f 0) e : Int))) rfl (ev_mk rfl) F.one3 ?hv) ⟨?hb, trivial⟩ ?_
                case hb => repeat (first | exact uE | refine uN (by omega) ?_ | assumption | exact hd _ (by omega) | exact hd0 _ (by omega) | exact hd2 _ (by omega) | fail)
                case hv => exact mt_q (by omega) (by omega)
                refine rl_gtr (gn rfl) rfl rfl rfl rfl rfl (fun h6 => ?_) (fun h6 => ?_)
                · skip
                  refine rl0 (gn rfl) rfl rfl (step_mv rfl rfl) trivial ?_
                  refine rlk rfl rfl rfl rfl rfl (ngb rfl rfl) rfl rfl ?_
                  refine rlk rfl rfl rfl rfl rfl (ngb rfl rfl) rfl rfl ?_
                  refine rlk rfl rfl rfl rfl rfl (ngb rfl rfl) rfl rfl ?_
                  refine rlk rfl rfl rfl rfl rfl (ngb rfl rfl) rfl rfl ?_
                  refine rlk rfl rfl rfl rfl rfl (ngb rfl rfl) rfl rfl ?_
                  refine rlk rfl rfl rfl rfl rfl (ngu rfl) rfl rfl ?_
                  refine rlk rfl rfl rfl rfl rfl (ngu rfl) rfl rfl ?_
                  refine rlk rfl rfl rfl rfl rfl (ngu rfl) rfl rfl ?_
                  refine rlk rfl rfl rfl rfl rfl (ngu rfl) rfl rfl ?_
                  refine rlk rfl rfl rfl rfl rfl (ngb rfl rfl) rfl rfl ?_
                  refine rl0 (gn rfl) rfl rfl (step_pick rfl (ev_mk rfl) (ev_mk rfl)) trivial ?_
                  refine runsL_nil ?_
                  refine runs_cond true (ev_mk rfl) (fun _ => ?_) (fun h_ => nomatch h_)
                  refine runs_seq ?_
                  refine runs_region ?_
                  have hem_ := snd_f2 (f := f) (k := e) (by omega) (by omega) (by omega)
                  refine rl0 (gn rfl) rfl rfl (step_as rfl rfl) trivial ?_
                  refine runsL_nil ?_
                  refine runs_ret ?_
                  refine ⟨by first | exact .inr rfl | exact .inl rfl, fin_mkg (rest rfl res0) ?_ ?_ ?_ ?_ ?_⟩
                  · (repeat' (first | exact VLe.refl _ | exact VLe.own_sl _ _ _ | exact VLe.fl_sl _ _ | exact VLe.nil_sl _ | exact VLe.nil_fl _ | exact VLes.refl _ | exact .nil | refine VLe.tup ?_ | refine VLe.agg ?_ | refine .cons ?_ ?_ | (rw [Int.natCast_add]; exact VLe.refl _) | exact vle_int (by omega) | exact vle_bool (by first | rfl | assumption | (simp_all; done) | fail) | fail))
                  · first | ((repeat (first | exact trivial | exact bd_pgA _ _ | exact bd_pg _ _ | exact bd_mt _ _ | assumption | omega | refine ⟨?_, ?_⟩ | fail)); done) | (repeat (first | exact trivial | assumption | omega | (refine bdR_map (fun _ => ?_)) | (refine bdL_map (fun _ => ?_)) | refine ⟨?_, ?_⟩ | fail))
                  · intro k_ hk_; exact ble (by repeat (first | exact rfl | refine uN (by omega) ?_ | assumption | exact hf0 _ (by omega) | exact hf2 _ (by omega) | fail))
                  · intro p hp; cases hp
                  · first | ((repeat (first | exact trivial | exact bd_pgA _ _ | exact bd_pg _ _ | exact bd_mt _ _ | assumption | omega | refine ⟨?_, ?_⟩ | fail)); done) | (repeat (first | exact trivial | assumption | omega | (refine bdR_map (fun _ => ?_)) | (refine bdL_map (fun _ => ?_)) | refine ⟨?_, ?_⟩ | fail))
                · skip
                  refine rl0 (gn rfl) rfl rfl (step_mv rfl rfl) trivial ?_
                  refine rl0 (gy rfl rfl rfl rfl rfl rfl) rfl rfl (step_mv rfl rfl) trivial ?_
                  refine rl0 (gy rfl rfl rfl rfl rfl rfl) rfl rfl (step_index_arr rfl (ev_mk rfl) (ev_mk rfl) Try.underlying64 F.sz3 (by omega) (by omega)) trivial ?_
                  refine' rl0 (gy rfl rfl rfl rfl rfl rfl) rfl rfl (step_load_one (v := .sc (.int .i64 (cnt f (f 0) e : Int))) rfl (ev_mk rfl) F.one3 ?hv) ⟨?hb, trivial⟩ ?_
                  case hb => repeat (first | exact uE | refine uN (by omega) ?_ | assumption | exact hd _ (by omega) | exact hd0 _ (by omega) | exact hd2 _ (by omega) | fail)
                  case hv => exact mt_q (by omega) (by omega)
                  refine rl_eql (gy rfl rfl rfl rfl rfl rfl) rfl rfl rfl rfl rfl (fun h7 => ?_) (fun h7 => ?_)
                  · skip
                    refine rl0 (gy rfl rfl rfl rfl rfl rfl) rfl rfl (step_mv rfl rfl) trivial ?_
                    refine rl0 (gy rfl rfl rfl rfl rfl rfl) rfl rfl (step_mv rfl rfl) trivial ?_
                    refine rl0 (gy rfl rfl rfl rfl rfl rfl) rfl rfl (step_index_arr rfl (ev_mk rfl) (ev_mk rfl) Try.underlying25 F.sz5 (by omega) (by omega)) trivial ?_
                    refine' rl0 (gy rfl rfl rfl rfl rfl rfl) rfl rfl (step_load_one (v := .sc (.int .u8 (f e : Int))) rfl (ev_mk rfl) F.one5 ?hv) ⟨?hb, trivial⟩ ?_
                    case hb => repeat (first | exact uE | refine uN (by omega) ?_ | assumption | exact hd _ (by omega) | exact hd0 _ (by omega) | exact hd2 _ (by omega) | fail)
                    case hv => exact pg_q (by omega) (by omega)
                    refine rl_neq (gy rfl rfl rfl rfl rfl rfl) rfl rfl rfl rfl rfl (fun h8 => ?_) (fun h8 => ?_)
                    · skip
                      refine rl0 (gy rfl rfl rfl rfl rfl rfl) rfl rfl (step_pick rfl (ev_mk rfl) (ev_mk rfl)) trivial ?_
                      refine rl0 (gn rfl) rfl rfl (step_pick rfl (ev_mk rfl) (ev_mk rfl)) trivial ?_
                      refine runsL_nil ?_
                      refine runs_cond true (ev_mk rfl) (fun _ => ?_) (fun h_ => nomatch h_)
                      refine runs_seq ?_
                      refine runs_region ?_
                      have hem_ := snd_f2 (f := f) (k := e) (by omega) (by omega) (by omega)
                      refine rl0 (gn rfl) rfl rfl (step_as rfl rfl) trivial ?_
                      refine runsL_nil ?_
                      refine runs_ret ?_
                      refine ⟨by first | exact .inr rfl | exact .inl rfl, fin_mkg (rest rfl res0) ?_ ?_ ?_ ?_ ?_⟩
                      · (repeat' (first | exact VLe.refl _ | exact VLe.own_sl _ _ _ | exact VLe.fl_sl _ _ | exact VLe.nil_sl _ | exact VLe.nil_fl _ | exact VLes.refl _ | exact .nil | refine VLe.tup ?_ | refine VLe.agg ?_ | refine .cons ?_ ?_ | (rw [Int.natCast_add]; exact VLe.refl _) | exact vle_int (by omega) | exact vle_bool (by first | rfl | assumption | (simp_all; done) | fail) | fail))
                      · first | ((repeat (first | exact trivial | exact bd_pgA _ _ | exact bd_pg _ _ | exact bd_mt _ _ | assumption | omega | refine ⟨?_, ?_⟩ | fail)); done) | (repeat (first | exact trivial | assumption | omega | (refine bdR_map (fun _ => ?_)) | (refine bdL_map (fun _ => ?_)) | refine ⟨?_, ?_⟩ | fail))
                      · intro k_ hk_; exact ble (by repeat (first | exact rfl | refine uN (by omega) ?_ | assumption | exact hf0 _ (by omega) | exact hf2 _ (by omega) | fail))
                      · intro p hp; cases hp
                      · first | ((repeat (first | exact trivial | exact bd_pgA _ _ | exact bd_pg _ _ | exact bd_mt _ _ | assumption | omega | refine ⟨?_, ?_⟩ | fail)); done) | (repeat (first | exact trivial | assumption | omega | (refine bdR_map (fun _ => ?_)) | (refine bdL_map (fun _ => ?_)) | refine ⟨?_, ?_⟩ | fail))
                    · skip
                      refine rl0 (gy rfl rfl rfl rfl rfl rfl) rfl rfl (step_pick rfl (ev_mk rfl) (ev_mk rfl)) trivial ?_
                      refine rl0 (gn rfl) rfl rfl (step_pick rfl (ev_mk rfl) (ev_mk rfl)) trivial ?_
                      refine runsL_nil ?_
                      refine runs_cond false (ev_mk rfl) (fun h_ => nomatch h_) (fun _ => ?_)
                      refine runs_skip ?_
                      refine runs_region ?_
                      refine rl0 (gn rfl) rfl rfl (step_mv rfl rfl) trivial ?_
                      refine rl0 (gn rfl) rfl rfl (step_add rfl (ev_mk rfl) (ev_mk rfl) (w64 (by omega))) trivial ?_
                      refine rl0 (gn rfl) rfl rfl (step_as rfl rfl) trivial ?_
                      refine runsL_nil ?_
                      refine ⟨_, _, ?_, sle ?_ (Nat.le_refl _), (e + 1), _, _, rfl, rfl, by omega, (fun k_ hk_ => by repeat (first | exact hf2 k_ hk_ | exact hf0 k_ hk_ | refine uN (by first | assumption | omega) ?_ | fail)), by first | ((repeat (first | exact uE | assumption | refine uN (by omega) ?_ | fail)); done) | exact tl_eq (by repeat (first | exact uE | assumption | refine uN (by omega) ?_ | fail)) (by first | rfl | (simp [bytesV, beB_len]; done) | (simp [bytesV, beB_len]; omega) | omega), by first | ((repeat (first | exact uE | assumption | refine uN (by omega) ?_ | fail)); done) | exact tl_eq (by repeat (first | exact uE | assumption | refine uN (by omega) ?_ | fail)) (by first | rfl | (simp [bytesV, beB_len]; done) | (simp [bytesV, beB_len]; omega) | omega), by first | ((repeat (first | exact uE | assumption | refine uN (by omega) ?_ | fail)); done) | exact tl_eq (by repeat (first | exact uE | assumption | refine uN (by omega) ?_ | fail)) (by first | rfl | (simp [bytesV, beB_len]; done) | (simp [bytesV, beB_len]; omega) | omega), by omega, by omega, fun q h1 h2 => (by rcases Nat.lt_or_ge q e with hq | hq; exact hF2_2 q h1 hq; (obtain rfl : q = e := by omega); exact okK_iff.2 (by omega))⟩
                      · omega
                      · (repeat' (first | exact trivial | refine ⟨⟨_, rfl, ?_⟩, ?_⟩ | fail)); all_goals (repeat' (first | exact VLe.refl _ | exact VLe.own_sl _ _ _ | exact VLe.fl_sl _ _ | exact VLe.nil_sl _ | exact VLe.nil_fl _ | exact VLes.refl _ | exact .nil | refine VLe.tup ?_ | refine VLe.agg ?_ | refine .cons ?_ ?_ | (rw [Int.natCast_add]; exact VLe.refl _) | exact vle_int (by omega) | exact vle_bool (by first | rfl | assumption | (simp_all; done) | fail) | fail))
                  · skip
                    refine rl0 (gy rfl rfl rfl rfl rfl rfl) rfl rfl (step_mv rfl rfl) trivial ?_
                    refine rlk rfl rfl rfl rfl rfl (ngb rfl rfl) rfl rfl ?_
                    refine rlk rfl rfl rfl rfl rfl (ngb rfl rfl) rfl rfl ?_
                    refine rlk rfl rfl rfl rfl rfl (ngb rfl rfl) rfl rfl ?_
                    refine rlk rfl rfl rfl rfl rfl (ngb rfl rfl) rfl rfl ?_
                    refine rl0 (gy rfl rfl rfl rfl rfl rfl) rfl rfl (step_pick rfl (ev_mk rfl) (ev_mk rfl)) trivial ?_
                    refine rl0 (gn rfl) rfl rfl (step_pick rfl (ev_mk rfl) (ev_mk rfl)) trivial ?_
                    refine runsL_nil ?_
                    refine runs_cond false (ev_mk rfl) (fun h_ => nomatch h_) (fun _ => ?_)
                    refine runs_skip ?_
                    refine runs_region ?_
                    refine rl0 (gn rfl) rfl rfl (step_mv rfl rfl) trivial ?_
                    refine rl0 (gn rfl) rfl rfl (step_add rfl (ev_mk rfl) (ev_mk rfl) (w64 (by omega))) trivial ?_
                    refine rl0 (gn rfl) rfl rfl (step_as rfl rfl) trivial ?_
                    refine runsL_nil ?_
                    refine ⟨_, _, ?_, sle ?_ (Nat.le_refl _), (e + 1), _, _, rfl, rfl, by omega, (fun k_ hk_ => by repeat (first | exact hf2 k_ hk_ | exact hf0 k_ hk_ | refine uN (by first | assumption | omega) ?_ | fail)), by first | ((repeat (first | exact uE | assumption | refine uN (by omega) ?_ | fail)); done) | exact tl_eq (by repeat (first | exact uE | assumption | refine uN (by omega) ?_ | fail)) (by first | rfl | (simp [bytesV, beB_len]; done) | (simp [bytesV, beB_len]; omega) | omega), by first | ((repeat (first | exact uE | assumption | refine uN (by omega) ?_ | fail)); done) | exact tl_eq (by repeat (first | exact uE | assumption | refine uN (by omega) ?_ | fail)) (by first | rfl | (simp [bytesV, beB_len]; done) | (simp [bytesV, beB_len]; omega) | omega), by first | ((repeat (first | exact uE | assumption | refine uN (by omega) ?_ | fail)); done) | exact tl_eq (by repeat (first | exact uE | assumption | refine uN (by omega) ?_ | fail)) (by first | rfl | (simp [bytesV, beB_len]; done) | (simp [bytesV, beB_len]; omega) | omega), by omega, by omega, fun q h1 h2 => (by rcases Nat.lt_or_ge q e with hq | hq; exact hF2_2 q h1 hq; (obtain rfl : q = e := by omega); exact okK_iff.2 (by omega))⟩
                    · omega
                    · (repeat' (first | exact trivial | refine ⟨⟨_, rfl, ?_⟩, ?_⟩ | fail)); all_goals (repeat' (first | exact VLe.refl _ | exact VLe.own_sl _ _ _ | exact VLe.fl_sl _ _ | exact VLe.nil_sl _ | exact VLe.nil_fl _ | exact VLes.refl _ | exact .nil | refine VLe.tup ?_ | refine VLe.agg ?_ | refine .cons ?_ ?_ | (rw [Int.natCast_add]; exact VLe.refl _) | exact vle_int (by omega) | exact vle_bool (by first | rfl | assumption | (simp_all; done) | fail) | fail))
              · skip
                obtain rfl : e = 224 := by omega
                have hem_ := snd_t (f := f) (by omega) hF0_1 hF2_2
                refine runsL_nil ?_
                refine runs_cond false (ev_mk rfl) (fun h_ => nomatch h_) (fun _ => ?_)
                refine runs_exit ?_
                refine runs_seq ?_
                refine runs_region ?_
                refine rl0 (gn rfl) rfl rfl (step_as rfl rfl) trivial ?_
                refine runsL_nil ?_
                refine runs_ret ?_
                refine ⟨by first | exact .inr rfl | exact .inl rfl, fin_mkg (rest rfl res0) ?_ ?_ ?_ ?_ ?_⟩
                · (repeat' (first | exact VLe.refl _ | exact VLe.own_sl _ _ _ | exact VLe.fl_sl _ _ | exact VLe.nil_sl _ | exact VLe.nil_fl _ | exact VLes.refl _ | exact .nil | refine VLe.tup ?_ | refine VLe.agg ?_ | refine .cons ?_ ?_ | (rw [Int.natCast_add]; exact VLe.refl _) | exact vle_int (by omega) | exact vle_bool (by first | rfl | assumption | (simp_all; done) | fail) | fail))
                · first | ((repeat (first | exact trivial | exact bd_pgA _ _ | exact bd_pg _ _ | exact bd_mt _ _ | assumption | omega | refine ⟨?_, ?_⟩ | fail)); done) | (repeat (first | exact trivial | assumption | omega | (refine bdR_map (fun _ => ?_)) | (refine bdL_map (fun _ => ?_)) | refine ⟨?_, ?_⟩ | fail))
                · intro k_ hk_; exact ble (by repeat (first | exact rfl | refine uN (by omega) ?_ | assumption | exact hf0 _ (by omega) | exact hf2 _ (by omega) | fail))
                · intro p hp; cases hp
                · first | ((repeat (first | exact trivial | exact bd_pgA _ _ | exact bd_pg _ _ | exact bd_mt _ _ | assumption | omega | refine ⟨?_, ?_⟩ | fail)); done) | (repeat (first | exact trivial | assumption | omega | (refine bdR_map (fun _ => ?_)) | (refine bdL_map (fun _ => ?_)) | refine ⟨?_, ?_⟩ | fail))
set_option maxRecDepth 100000 in
set_option maxHeartbeats 4000000 in
theorem of_c (f : Pf) (hb : ∀ k, f k < 256) : Does Try.prog 11 [.agg (pgC f)] [] [] (.tup [.agg (pgC (ofP f)), .sc (.bool (sndF f))]) := by
  refine does_mkg 40 Try.func11 rfl rfl rfl (fun n B bx hd hpre hup hvs hbx hgx => ?_)
  refine runs_seq ?_
  refine runs_region ?_
  refine rl1 (gn rfl) rfl rfl (step_box_agg (k := n + 0) rfl rfl) ⟨by repeat (first | exact uE | refine uN (by omega) ?_ | assumption | exact hd _ (by omega) | fail), trivial⟩ (by omega) ?_
  refine rl1 (gn rfl) rfl rfl (step_allocc (k := n + 1) (zs := (List.replicate 224 (.int .u8 0))) (cs := List.replicate 224 (.sc (.int .u8 0))) rfl F.zero27 (by first | rfl | simp) (by first | rfl | decide | simp) (by first | rfl | simp)) ⟨by repeat (first | exact uE | refine uN (by omega) ?_ | assumption | exact hd _ (by omega) | fail), trivial⟩ (by omega) ?_
  refine rl0 (gn rfl) rfl rfl (step_as rfl rfl) trivial ?_
  refine runsL_nil ?_
  refine runs_seq ?_
  refine runs_seq ?_
  refine runs_region ?_
  refine' rl0 (gn rfl) rfl rfl (step_load_all rfl rfl F.agg25 ?hl) ⟨?hb, trivial⟩ ?_
  case hb => repeat (first | exact uE | refine uN (by omega) ?_ | assumption | exact hd _ (by omega) | fail)
  case hl => first | rfl | (simp; done) | (first | exact pgC_len _ | exact mtC_len _ | (simp; done) | (rw [pgC_len]; omega) | (rw [mtC_len]; omega) | omega)
  refine rl0 (gn rfl) rfl rfl (step_callc rfl Try.func12 rfl rfl rfl (sound_c f hb) (by repeat (first | exact .nil | refine .cons ?_ ?_ | exact VLe.refl _ | exact VLe.own_sl _ _ _ | exact VLe.fl_sl _ _ | exact VLe.nil_sl _ | exact vle_int (by omega)))) trivial ?_
  refine rl0 (gn rfl) rfl rfl (step_unOp rfl (ev_mk rfl) (fun _ => rfl)) trivial ?_
  refine runsL_nil ?_
  refine runs_cond _ (ev_mk rfl) (fun h1 => ?_) (fun h1 => ?_)
  · skip
    have hg_ : sndF f = false := (by have q_ := h1; simpa using q_)
    have hem_ : false = sndF f := hg_.symm
    have hof_ : ofP f = newF := if_neg (by rw [hg_]; simp)
    refine runs_seq ?_
    refine runs_region ?_
    refine rl0 (gn rfl) rfl rfl (step_callc rfl Try.func8 rfl rfl rfl (new_c) (by repeat (first | exact .nil | refine .cons ?_ ?_ | exact VLe.refl _ | exact VLe.own_sl _ _ _ | exact VLe.fl_sl _ _ | exact VLe.nil_sl _ | exact vle_int (by omega)))) trivial ?_
    refine' rls (gn rfl) rfl (step_storeA rfl rfl rfl rfl F.agg27 ?hm ?hl) ⟨?hb, trivial⟩ ?hk ?_
    case hb => repeat (first | exact uE | refine uN (by omega) ?_ | assumption | exact hd _ (by omega) | fail)
    case hm => first | rfl | (simp; done) | (first | exact pgC_len _ | exact mtC_len _ | (simp; done) | (rw [pgC_len]; omega) | (rw [mtC_len]; omega) | omega)
    case hl => first | rfl | (simp; done) | (first | exact pgC_len _ | exact mtC_len _ | (simp; done) | (rw [pgC_len]; omega) | (rw [mtC_len]; omega) | omega)
    case hk => omega
    refine rl0 (gn rfl) rfl rfl (step_as rfl rfl) trivial ?_
    refine runsL_nil ?_
    refine runs_ret ?_
    refine ⟨by first | exact .inr rfl | exact .inl rfl, fin_mkg (resc rfl (by repeat (first | exact uE | refine uN (by omega) ?_ | assumption | exact hd _ (by omega) | fail)) F.agg27 (by first | rfl | (simp; done) | (first | exact pgC_len _ | exact mtC_len _ | (simp; done) | (rw [pgC_len]; omega) | (rw [mtC_len]; omega) | omega)) (rest rfl res0)) ?_ ?_ ?_ ?_ ?_⟩
    · (repeat' (first | exact VLe.refl _ | exact VLe.own_sl _ _ _ | exact VLe.fl_sl _ _ | exact VLe.nil_sl _ | exact VLe.nil_fl _ | exact VLes.refl _ | exact .nil | refine VLe.tup ?_ | refine VLe.agg ?_ | refine .cons ?_ ?_ | (rw [Int.natCast_add]; exact VLe.refl _) | exact vle_int (by omega) | exact vle_bool (by first | rfl | assumption | (simp_all; done) | fail) | ((rw [hof_]; exact VLes.refl _)) | fail))
    · first | ((repeat (first | exact trivial | exact bd_pgA _ _ | exact bd_pg _ _ | exact bd_mt _ _ | assumption | omega | refine ⟨?_, ?_⟩ | fail)); done) | (repeat (first | exact trivial | assumption | omega | (refine bdR_map (fun _ => ?_)) | (refine bdL_map (fun _ => ?_)) | refine ⟨?_, ?_⟩ | fail))
    · intro k_ hk_; exact ble (by repeat (first | exact rfl | refine uN (by omega) ?_ | assumption | fail))
    · intro p hp; cases hp
    · first | ((repeat (first | exact trivial | exact bd_pgA _ _ | exact bd_pg _ _ | exact bd_mt _ _ | assumption | omega | refine ⟨?_, ?_⟩ | fail)); done) | (repeat (first | exact trivial | assumption | omega | (refine bdR_map (fun _ => ?_)) | (refine bdL_map (fun _ => ?_)) | refine ⟨?_, ?_⟩ | fail))
  · skip
    have hg_ : sndF f = true := (by have q_ := h1; simpa using q_)
    have hem_ : true = sndF f := hg_.symm
    have hof_ : ofP f = f := if_pos hg_
    refine runs_skip ?_
    refine runs_seq ?_
    refine runs_region ?_
    refine' rl0 (gn rfl) rfl rfl (step_load_all rfl rfl F.agg25 ?hl) ⟨?hb, trivial⟩ ?_
    case hb => repeat (first | exact uE | refine uN (by omega) ?_ | assumption | exact hd _ (by omega) | fail)
    case hl => first | rfl | (simp; done) | (first | exact pgC_len _ | exact mtC_len _ | (simp; done) | (rw [pgC_len]; omega) | (rw [mtC_len]; omega) | omega)
    refine rl0 (gn rfl) rfl rfl (step_build (ss := [224]) (zs := (List.replicate 224 (.int .u8 0))) (cs := pgC f) rfl Try.underlying27 (by kernel_rfl) F.zero27 rfl rfl (pg_fill f)) trivial ?_
    refine' rls (gn rfl) rfl (step_storeA rfl rfl rfl rfl F.agg27 ?hm ?hl) ⟨?hb, trivial⟩ ?hk ?_
    case hb => repeat (first | exact uE | refine uN (by omega) ?_ | assumption | exact hd _ (by omega) | fail)
    case hm => first | rfl | (simp; done) | (first | exact pgC_len _ | exact mtC_len _ | (simp; done) | (rw [pgC_len]; omega) | (rw [mtC_len]; omega) | omega)
    case hl => first | rfl | (simp; done) | (first | exact pgC_len _ | exact mtC_len _ | (simp; done) | (rw [pgC_len]; omega) | (rw [mtC_len]; omega) | omega)
    case hk => omega
    refine rl0 (gn rfl) rfl rfl (step_as rfl rfl) trivial ?_
    refine runsL_nil ?_
    refine runs_ret ?_
    refine ⟨by first | exact .inr rfl | exact .inl rfl, fin_mkg (resc rfl (by repeat (first | exact uE | refine uN (by omega) ?_ | assumption | exact hd _ (by omega) | fail)) F.agg27 (by first | rfl | (simp; done) | (first | exact pgC_len _ | exact mtC_len _ | (simp; done) | (rw [pgC_len]; omega) | (rw [mtC_len]; omega) | omega)) (rest rfl res0)) ?_ ?_ ?_ ?_ ?_⟩
    · (repeat' (first | exact VLe.refl _ | exact VLe.own_sl _ _ _ | exact VLe.fl_sl _ _ | exact VLe.nil_sl _ | exact VLe.nil_fl _ | exact VLes.refl _ | exact .nil | refine VLe.tup ?_ | refine VLe.agg ?_ | refine .cons ?_ ?_ | (rw [Int.natCast_add]; exact VLe.refl _) | exact vle_int (by omega) | exact vle_bool (by first | rfl | assumption | (simp_all; done) | fail) | ((rw [hof_]; exact VLes.refl _)) | fail))
    · first | ((repeat (first | exact trivial | exact bd_pgA _ _ | exact bd_pg _ _ | exact bd_mt _ _ | assumption | omega | refine ⟨?_, ?_⟩ | fail)); done) | (repeat (first | exact trivial | assumption | omega | (refine bdR_map (fun _ => ?_)) | (refine bdL_map (fun _ => ?_)) | refine ⟨?_, ?_⟩ | fail))
    · intro k_ hk_; exact ble (by repeat (first | exact rfl | refine uN (by omega) ?_ | assumption | fail))
    · intro p hp; cases hp
    · first | ((repeat (first | exact trivial | exact bd_pgA _ _ | exact bd_pg _ _ | exact bd_mt _ _ | assumption | omega | refine ⟨?_, ?_⟩ | fail)); done) | (repeat (first | exact trivial | assumption | omega | (refine bdR_map (fun _ => ?_)) | (refine bdL_map (fun _ => ?_)) | refine ⟨?_, ?_⟩ | fail))
end Go.Proofs.Ytjmfdddeoadpaaa
