/- Walks by the logic of values. -/
import Derived.Test.YtggeejghchnpaaaKrVmT
import Derived.Test.YtggeejghchnpaaaKrVmP
import Derived.Test.YtggeejghchnpaaaKrVmV
import Derived.Test.YtggeejghchnpaaaKrVmY
import Derived.Test.YtggeejghchnpaaaKrVa
namespace Go.Proofs.Ytggeejghchnpaaa
open Go.Vm
set_option linter.unusedVariables false
set_option linter.unusedSimpArgs false
abbrev itC (kf : Nat → Int) (h : Nat → Nat) (L a : Nat) : List V := [.sc (.int .i64 (kf a)), .sc (.int .i64 ((a : Nat) : Int)), .sc (.int .i64 (posF h L a))]
def rowsH (n0 : Nat) (h : Nat → Nat) (M : Nat) : List (List V) := (List.range M).map fun j => [V.ref (n0 + h j) 0]
theorem rowsH_len (n0 : Nat) (h : Nat → Nat) (M : Nat) : (rowsH n0 h M).length = M := by unfold rowsH; rw [List.length_map, List.length_range]
theorem row_at {n0 : Nat} {h : Nat → Nat} {M i : Nat} (hi : i < M) : (rowsH n0 h M)[i]? = some [V.ref (n0 + h i) 0] := by
  unfold rowsH; rw [List.getElem?_map, List.getElem?_range hi]; rfl
theorem row_1 {n0 : Nat} {h : Nat → Nat} {M i k : Nat} (hk : k < M) (hik : i ≠ k) (x : List V) : ((rowsH n0 h M).set i x)[k]? = some [V.ref (n0 + h k) 0] := by
  rw [List.getElem?_set_ne hik]; exact row_at hk
theorem row_1s {n0 : Nat} {h : Nat → Nat} {M i : Nat} (hi : i < M) (x : List V) : ((rowsH n0 h M).set i x)[i]? = some x := by
  rw [List.getElem?_set_self (by rw [rowsH_len]; exact hi)]
theorem rows_sw {n0 : Nat} {h : Nat → Nat} {M i k : Nat} (hi : i < M) (hk : k < M) : ((rowsH n0 h M).set i [V.ref (n0 + h k) 0]).set k [V.ref (n0 + h i) 0] = rowsH n0 (sw h i k) M := by
  apply List.ext_getElem?
  intro j
  by_cases q : j < M
  · rw [row_at q]
    by_cases e : j = k
    · subst e
      rw [List.getElem?_set_self (by rw [List.length_set, rowsH_len]; exact q)]
      by_cases e2 : j = i
      · subst e2; rw [sw_i]
      · rw [sw_k e2]
    · rw [List.getElem?_set_ne (Ne.symm e)]
      by_cases e2 : j = i
      · subst e2; rw [List.getElem?_set_self (by rw [rowsH_len]; exact q), sw_i]
      · rw [List.getElem?_set_ne (Ne.symm e2), row_at q, sw_o e2 e]
  · rw [List.getElem?_eq_none (by rw [List.length_set, List.length_set, rowsH_len]; omega), List.getElem?_eq_none (by rw [rowsH_len]; omega)]
theorem sw_same (h : Nat → Nat) (i : Nat) : sw h i i = h := by
  funext j; unfold sw; by_cases e : j = i
  · subst e; rw [if_pos rfl]
  · rw [if_neg e, if_neg e]
theorem rows_put {n0 : Nat} {h : Nat → Nat} {M L c : Nat} (hLM : L ≤ M) : (rowsH n0 h M).take L ++ [[V.ref (n0 + c) 0]] = rowsH n0 (upd1 h L c) (L + 1) := by
  unfold rowsH
  rw [← List.map_take, List.take_range, Nat.min_eq_left hLM, List.range_succ, List.map_append]
  congr 1
  · refine List.map_congr_left fun j hj => ?_
    have := List.mem_range.1 hj
    unfold upd1; rw [if_neg (by omega)]
  · show _ = [[V.ref (n0 + upd1 h L c L) 0]]
    unfold upd1; rw [if_pos rfl]
theorem rows_bd {n n0 c : Nat} {h : Nat → Nat} {M : Nat} (hc : ∀ j, j < M → h j < c) (hn : c = 0 ∨ n0 + c ≤ n) : bdR n (rowsH n0 h M) := bdR_all fun v hv => by
  obtain ⟨j, hj, rfl⟩ := List.mem_map.1 hv
  have := hc j (List.mem_range.1 hj)
  exact ⟨show n0 + h j < n by omega, trivial⟩
theorem bdR_mem {n : Nat} : ∀ {rs : List (List V)} {x : List V}, bdR n rs → x ∈ rs → bdL n x
  | r :: rs, x, h, hm => by
    rcases List.mem_cons.1 hm with rfl | q
    · exact h.1
    · exact bdR_mem h.2 q
theorem bdR_set {n i : Nat} {rs : List (List V)} {x : List V} (h : bdR n rs) (hx : bdL n x) : bdR n (rs.set i x) := bdR_all fun v hv => by
  rcases List.mem_or_eq_of_mem_set hv with q | q
  · exact bdR_mem h q
  · rw [q]; exact hx
theorem rows_bd_sw {n n0 : Nat} {h : Nat → Nat} {M i k : Nat} (hi : i < M) (hk : k < M) (hb : bdR n (rowsH n0 h M)) : bdR n (rowsH n0 (sw h i k) M) := by
  rw [← rows_sw hi hk]
  exact bdR_set (bdR_set hb (bdR_mem hb (List.mem_of_getElem? (row_at hk)))) (bdR_mem hb (List.mem_of_getElem? (row_at hi)))
theorem pos_sw_i {h : Nat → Nat} {L i k : Nat} (hj : InjH h L) (hi : i < L) (hk : k < L) : posF (sw h i k) L (h k) = (i : Int) := by
  rw [show h k = sw h i k i from (sw_i ..).symm]; exact pos_at (sw_inj hi hk hj) hi
theorem pos_sw_k {h : Nat → Nat} {L i k : Nat} (hj : InjH h L) (hi : i < L) (hk : k < L) : posF (sw h i k) L (h i) = (k : Int) := by
  have : sw h i k k = h i := by
    by_cases e : k = i
    · subst e; rw [sw_i]
    · exact sw_k e
  rw [← this]; exact pos_at (sw_inj hi hk hj) hk
theorem pos_congr {h g : Nat → Nat} {L a : Nat} (hj : InjH h L) (e : ∀ j, j < L → (h j = a ↔ g j = a)) : posF h L a = posF g L a := by
  unfold posF
  have : (List.range L).find? (fun j => h j == a) = (List.range L).find? (fun j => g j == a) := by
    have key : ∀ (l : List Nat), (∀ j ∈ l, j < L) → l.find? (fun j => h j == a) = l.find? (fun j => g j == a) := by
      intro l
      induction l with
      | nil => intro _; rfl
      | cons x l ih =>
        intro hl
        have hx := e x (hl x (List.mem_cons_self ..))
        rw [List.find?_cons, List.find?_cons, ih fun j hj => hl j (List.mem_cons_of_mem _ hj)]
        by_cases q : h x = a
        · rw [beq_iff_eq.2 q, beq_iff_eq.2 (hx.1 q)]
        · rw [beq_eq_false_iff_ne.2 q, beq_eq_false_iff_ne.2 fun z => q (hx.2 z)]
    exact key _ fun j hj => List.mem_range.1 hj
  rw [this]
theorem pos_sw_o {h : Nat → Nat} {L i k a : Nat} (hj : InjH h L) (h1 : a ≠ h i) (h2 : a ≠ h k) : posF (sw h i k) L a = posF h L a := by
  refine (pos_congr hj fun j hj => ?_).symm
  by_cases e : j = i
  · subst e; rw [sw_i]; exact ⟨fun q => absurd q.symm h1, fun q => absurd q.symm h2⟩
  · by_cases e2 : j = k
    · subst e2; rw [sw_k e]; exact ⟨fun q => absurd q.symm h2, fun q => absurd q.symm h1⟩
    · rw [sw_o e e2]
theorem fam_sw {w : Nat → V} {b : Nat → Box} {n0 gb L c i k : Nat} {g : Nat → Nat} {X : Box} (hf : ∀ a, a < c → b (n0 + a) = .cells [w a, .sc (.int .i64 ((a : Nat) : Int)), .sc (.int .i64 (posF g L a))]) (hgb : gb < n0) (hj : InjH g L) (hi : i < L) (hk : k < L) (hik : g i ≠ g k) :
    ∀ a, a < c → upd (upd (upd b gb X) (n0 + g k) (.cells [w (g k), .sc (.int .i64 ((g k : Nat) : Int)), .sc (.int .i64 (i : Int))])) (n0 + g i) (.cells [w (g i), .sc (.int .i64 ((g i : Nat) : Int)), .sc (.int .i64 (k : Int))]) (n0 + a) = .cells [w a, .sc (.int .i64 ((a : Nat) : Int)), .sc (.int .i64 (posF (sw g i k) L a))] := by
  intro a ha
  by_cases e : a = g i
  · subst e; rw [upd_eq, pos_sw_k hj hi hk]
  · rw [upd_ne _ _ _ _ (by omega)]
    by_cases e2 : a = g k
    · subst e2; rw [upd_eq, pos_sw_i hj hi hk]
    · rw [upd_ne _ _ _ _ (by omega), upd_ne _ _ _ _ (by omega), hf a ha, pos_sw_o hj e e2]
theorem sw_lt {h : Nat → Nat} {M c i k : Nat} (hi : i < M) (hk : k < M) (hc : ∀ j, j < M → h j < c) : ∀ j, j < M → sw h i k j < c := by
  intro j hj; unfold sw
  split
  · exact hc k hk
  · split
    · exact hc i hi
    · exact hc j hj
theorem up_lt {kf : Nat → Int} {M c : Nat} : ∀ (f : Nat) (h : Nat → Nat) (i : Nat), i < M → (∀ j, j < M → h j < c) → ∀ j, j < M → upF kf f h i j < c
  | 0, h, i, hi, hc => hc
  | f + 1, h, i, hi, hc => by
    simp only [upF]
    split
    · exact up_lt f _ _ (by omega) (sw_lt hi (by omega) hc)
    · exact hc
theorem dn_lt {kf : Nat → Int} {L M c : Nat} (hLM : L ≤ M) : ∀ (f : Nat) (h : Nat → Nat) (i : Nat), i < L → (∀ j, j < M → h j < c) → ∀ j, j < M → dnF kf L f h i j < c
  | 0, h, i, hi, hc => hc
  | f + 1, h, i, hi, hc => by
    simp only [dnF]
    split
    · exact hc
    · exact dn_lt hLM f _ _ (bst_lt hi) (sw_lt (by omega) (by have := bst_lt (kf := kf) (h := h) hi; omega) hc)
set_option maxRecDepth 100000 in
set_option maxHeartbeats 4000000 in
theorem ahead_c (kf : Nat → Int) (h : Nat → Nat) (n0 hb gb v L M c i k : Nat) (p1 p2 : Int) (hi : i < L) (hk : k < L) (hLM : L ≤ M) : Does Try.prog 29 [.ref hb 0, .sc (.int .i64 (i : Int)), .sc (.int .i64 (k : Int))] [(hb, .cells [.gsl gb v 0 L 1, .sc (.func (.func 8) #[] #[]), .sc (.int .i64 (c : Int))]), (gb, .gcells v 1 (rowsH n0 h M)), (n0 + h i, .cells [.sc (.int .i64 (kf (h i))), .sc (.int .i64 ((h i : Nat) : Int)), .sc (.int .i64 p1)]), (n0 + h k, .cells [.sc (.int .i64 (kf (h k))), .sc (.int .i64 ((h k : Nat) : Int)), .sc (.int .i64 p2)])] [] (.sc (.bool (decide (ltK kf (h i) (h k))))) := by
  refine does_mkg 40 Try.func29 rfl rfl rfl (fun n B bx hd hpre hup hvs hbx hgx => ?_)
  have hp0 := hpre.1
  have hk0 := lt_cells hd hp0
  have hp1 := hpre.2.1
  have hk1 := lt_gcells hd hp1
  have hp2 := hpre.2.2.1
  have hk2 := lt_cells hd hp2
  have hp3 := hpre.2.2.2.1
  have hk3 := lt_cells hd hp3
  have hrl_ := rowsH_len n0 h M
  refine runs_seq ?_
  refine runs_region ?_
  refine rl0 (gn rfl) rfl rfl (step_as rfl rfl) trivial ?_
  refine runsL_nil ?_
  refine runs_seq ?_
  refine runs_draw (by kernel_rfl) (by kernel_rfl) (by kernel_rfl) ?_
  refine dl0 (gn rfl) rfl rfl (step_mv rfl rfl) trivial ?_
  refine dl0 (gn rfl) rfl rfl (step_nilCheck rfl (ev_mk rfl) (.inl ⟨_, _, rfl⟩)) trivial ?_
  refine dl0 (gn rfl) rfl rfl (step_fieldAddr (off := 0) rfl (ev_mk rfl) Try.underlying57 rfl F.sz28 rfl) trivial ?_
  refine' dl0 (gn rfl) rfl rfl (step_load_one rfl (ev_mk rfl) F.one28 ?hv) ⟨?hb, trivial⟩ ?_
  case hb => repeat (first | exact uE | refine uN (by omega) ?_ | assumption | exact hd _ (by omega) | fail)
  case hv => rfl
  refine dl0 (gn rfl) rfl rfl (step_mv rfl rfl) trivial ?_
  refine' dl0 (gn rfl) rfl rfl (step_index_g rfl (ev_mk rfl) (ev_mk rfl) Try.underlying28 F.sz34 (by omega) (by omega) ?hl) ⟨?hb, trivial⟩ ?_
  case hb => repeat (first | exact uE | refine uN (by omega) ?_ | assumption | exact hd _ (by omega) | fail)
  case hl => first | omega | (first | (simp; done) | (simp; omega) | omega)
  refine' dl0 (gn rfl) rfl rfl (step_load_g1 (i := i) (c := 0) (r := [V.ref (n0 + h i) 0]) rfl (ev_mk rfl) F.one34 ?hi ?hc ?hq) ⟨?hb, trivial⟩ ?_
  case hb => repeat (first | exact uE | refine uN (by omega) ?_ | assumption | exact hd _ (by omega) | fail)
  case hi => exact row_at (by omega)
  case hc => first | rfl | (first | (simp; done) | (simp; omega) | omega)
  case hq => first | rfl | omega
  refine dl0 (gn rfl) rfl rfl (step_mv rfl rfl) trivial ?_
  refine dl0 (gn rfl) rfl rfl (step_nilCheck rfl (ev_mk rfl) (.inl ⟨_, _, rfl⟩)) trivial ?_
  refine dl0 (gn rfl) rfl rfl (step_fieldAddr (off := 0) rfl (ev_mk rfl) Try.underlying57 rfl F.sz28 rfl) trivial ?_
  refine' dl0 (gn rfl) rfl rfl (step_load_one rfl (ev_mk rfl) F.one28 ?hv) ⟨?hb, trivial⟩ ?_
  case hb => repeat (first | exact uE | refine uN (by omega) ?_ | assumption | exact hd _ (by omega) | fail)
  case hv => rfl
  refine dl0 (gn rfl) rfl rfl (step_mv rfl rfl) trivial ?_
  refine' dl0 (gn rfl) rfl rfl (step_index_g rfl (ev_mk rfl) (ev_mk rfl) Try.underlying28 F.sz34 (by omega) (by omega) ?hl) ⟨?hb, trivial⟩ ?_
  case hb => repeat (first | exact uE | refine uN (by omega) ?_ | assumption | exact hd _ (by omega) | fail)
  case hl => first | omega | (first | (simp; done) | (simp; omega) | omega)
  refine' dl0 (gn rfl) rfl rfl (step_load_g1 (i := k) (c := 0) (r := [V.ref (n0 + h k) 0]) rfl (ev_mk rfl) F.one34 ?hi ?hc ?hq) ⟨?hb, trivial⟩ ?_
  case hb => repeat (first | exact uE | refine uN (by omega) ?_ | assumption | exact hd _ (by omega) | fail)
  case hi => exact row_at (by omega)
  case hc => first | rfl | (first | (simp; done) | (simp; omega) | omega)
  case hq => first | rfl | omega
  refine dl0 (gn rfl) rfl rfl (step_as rfl rfl) trivial ?_
  refine dl0 (gn rfl) rfl rfl (step_as rfl rfl) trivial ?_
  refine dlnil ?_ ?_
  · repeat' (first | exact trivial | exact .inr (ap0 _ _ _ _) | exact .inr (ap2 _ _ _ _) | exact .inr (ap3 _ _ _ _) | exact .inr ⟨by first | (simp; done) | (simp; omega), by first | (simp; done) | (simp; omega)⟩ | exact .inl (by kernel_rfl) | refine ⟨?_, ?_⟩ | fail)
  refine runs_seq ?_
  refine runs_seq ?_
  refine runs_draw (by kernel_rfl) (by kernel_rfl) (by kernel_rfl) ?_
  refine dl0 (gn rfl) rfl rfl (step_mv rfl rfl) trivial ?_
  refine dl0 (gn rfl) rfl rfl (step_nilCheck rfl (ev_mk rfl) (.inl ⟨_, _, rfl⟩)) trivial ?_
  refine dl0 (gn rfl) rfl rfl (step_fieldAddr (off := 1) rfl (ev_mk rfl) Try.underlying57 rfl F.sz26 rfl) trivial ?_
  refine' dl0 (gn rfl) rfl rfl (step_load_one rfl (ev_mk rfl) F.one26 ?hv) ⟨?hb, trivial⟩ ?_
  case hb => repeat (first | exact uE | refine uN (by omega) ?_ | assumption | exact hd _ (by omega) | fail)
  case hv => rfl
  refine dl0 (gn rfl) rfl rfl (step_mv rfl rfl) trivial ?_
  refine dl0 (gn rfl) rfl rfl (step_nilCheck rfl (ev_mk rfl) (.inl ⟨_, _, rfl⟩)) trivial ?_
  refine dl0 (gn rfl) rfl rfl (step_fieldAddr (off := 0) rfl (ev_mk rfl) Try.underlying59 rfl F.sz3 rfl) trivial ?_
  refine' dl0 (gn rfl) rfl rfl (step_load_one rfl (ev_mk rfl) F.one3 ?hv) ⟨?hb, trivial⟩ ?_
  case hb => repeat (first | exact uE | refine uN (by omega) ?_ | assumption | exact hd _ (by omega) | fail)
  case hv => rfl
  refine dl0 (gn rfl) rfl rfl (step_mv rfl rfl) trivial ?_
  refine dl0 (gn rfl) rfl rfl (step_nilCheck rfl (ev_mk rfl) (.inl ⟨_, _, rfl⟩)) trivial ?_
  refine dl0 (gn rfl) rfl rfl (step_fieldAddr (off := 0) rfl (ev_mk rfl) Try.underlying59 rfl F.sz3 rfl) trivial ?_
  refine' dl0 (gn rfl) rfl rfl (step_load_one rfl (ev_mk rfl) F.one3 ?hv) ⟨?hb, trivial⟩ ?_
  case hb => repeat (first | exact uE | refine uN (by omega) ?_ | assumption | exact hd _ (by omega) | fail)
  case hv => rfl
  refine dl0 (gn rfl) rfl rfl (step_callfn rfl (ev_mk rfl) (.inr ⟨rfl, rfl⟩) Try.func8 rfl rfl rfl (less_c (kf (h i)) (kf (h k))) (by repeat (first | exact .nil | refine .cons ?_ ?_ | exact VLe.refl _ | exact VLe.own_sl _ _ _ | exact VLe.fl_sl _ _ | exact VLe.nil_sl _ | exact VLe.nil_fl _ | refine VLe.agg ?_))) trivial ?_
  refine dlnil ?_ ?_
  · repeat' (first | exact trivial | exact .inr (ap0 _ _ _ _) | exact .inr (ap2 _ _ _ _) | exact .inr (ap3 _ _ _ _) | exact .inr ⟨by first | (simp; done) | (simp; omega), by first | (simp; done) | (simp; omega)⟩ | exact .inl (by kernel_rfl) | refine ⟨?_, ?_⟩ | fail)
  refine runs_cond _ (ev_mk rfl) (fun h1 => ?_) (fun h1 => ?_)
  · skip
    have hlt_ : (kf (h i)) < (kf (h k)) := of_decide_eq_true h1
    have hem_ : true = decide (ltK kf (h i) (h k)) := (decide_eq_true (by unfold ltK; omega)).symm
    refine runs_seq ?_
    refine runs_region ?_
    refine rl0 (gn rfl) rfl rfl (step_as rfl rfl) trivial ?_
    refine runsL_nil ?_
    refine runs_ret ?_
    refine ⟨by first | exact .inr rfl | exact .inl rfl, fin_mkg (rest rfl res0) ?_ ?_ ?_ ?_ ?_⟩
    · (repeat' (first | exact VLe.refl _ | exact VLe.own_sl _ _ _ | exact VLe.fl_sl _ _ | exact VLe.nil_sl _ | exact VLe.nil_fl _ | exact VLes.refl _ | exact .nil | refine VLe.tup ?_ | refine VLe.agg ?_ | refine .cons ?_ ?_ | (rw [Int.natCast_add]; exact VLe.refl _) | exact vle_int (by omega) | exact vle_bool (by first | rfl | assumption | (simp_all; done) | fail) | fail))
    · repeat (first | exact trivial | assumption | omega | (refine bdR_map (fun _ => ?_)) | (refine bdL_map (fun _ => ?_)) | refine ⟨?_, ?_⟩ | fail)
    · intro k_ hk_; exact ble (by repeat (first | exact rfl | refine uN (by omega) ?_ | assumption | fail))
    · intro p hp; cases hp
    · repeat (first | exact trivial | assumption | omega | (refine bdR_map (fun _ => ?_)) | (refine bdL_map (fun _ => ?_)) | refine ⟨?_, ?_⟩ | fail)
  · skip
    have hnl_ : ¬ (kf (h i)) < (kf (h k)) := of_decide_eq_false h1
    refine runs_skip ?_
    refine runs_seq ?_
    refine runs_draw (by kernel_rfl) (by kernel_rfl) (by kernel_rfl) ?_
    refine dl0 (gn rfl) rfl rfl (step_mv rfl rfl) trivial ?_
    refine dl0 (gn rfl) rfl rfl (step_nilCheck rfl (ev_mk rfl) (.inl ⟨_, _, rfl⟩)) trivial ?_
    refine dl0 (gn rfl) rfl rfl (step_fieldAddr (off := 1) rfl (ev_mk rfl) Try.underlying57 rfl F.sz26 rfl) trivial ?_
    refine' dl0 (gn rfl) rfl rfl (step_load_one rfl (ev_mk rfl) F.one26 ?hv) ⟨?hb, trivial⟩ ?_
    case hb => repeat (first | exact uE | refine uN (by omega) ?_ | assumption | exact hd _ (by omega) | fail)
    case hv => rfl
    refine dl0 (gn rfl) rfl rfl (step_mv rfl rfl) trivial ?_
    refine dl0 (gn rfl) rfl rfl (step_nilCheck rfl (ev_mk rfl) (.inl ⟨_, _, rfl⟩)) trivial ?_
    refine dl0 (gn rfl) rfl rfl (step_fieldAddr (off := 0) rfl (ev_mk rfl) Try.underlying59 rfl F.sz3 rfl) trivial ?_
    refine' dl0 (gn rfl) rfl rfl (step_load_one rfl (ev_mk rfl) F.one3 ?hv) ⟨?hb, trivial⟩ ?_
    case hb => repeat (first | exact uE | refine uN (by omega) ?_ | assumption | exact hd _ (by omega) | fail)
    case hv => rfl
    refine dl0 (gn rfl) rfl rfl (step_mv rfl rfl) trivial ?_
    refine dl0 (gn rfl) rfl rfl (step_nilCheck rfl (ev_mk rfl) (.inl ⟨_, _, rfl⟩)) trivial ?_
    refine dl0 (gn rfl) rfl rfl (step_fieldAddr (off := 0) rfl (ev_mk rfl) Try.underlying59 rfl F.sz3 rfl) trivial ?_
    refine' dl0 (gn rfl) rfl rfl (step_load_one rfl (ev_mk rfl) F.one3 ?hv) ⟨?hb, trivial⟩ ?_
    case hb => repeat (first | exact uE | refine uN (by omega) ?_ | assumption | exact hd _ (by omega) | fail)
    case hv => rfl
    refine dl0 (gn rfl) rfl rfl (step_callfn rfl (ev_mk rfl) (.inr ⟨rfl, rfl⟩) Try.func8 rfl rfl rfl (less_c (kf (h k)) (kf (h i))) (by repeat (first | exact .nil | refine .cons ?_ ?_ | exact VLe.refl _ | exact VLe.own_sl _ _ _ | exact VLe.fl_sl _ _ | exact VLe.nil_sl _ | exact VLe.nil_fl _ | refine VLe.agg ?_))) trivial ?_
    refine dl0 (gn rfl) rfl rfl (step_unOp rfl (ev_mk rfl) (fun _ => rfl)) trivial ?_
    refine dl0 (gn rfl) rfl rfl (step_mv rfl rfl) trivial ?_
    refine dl_bool (d := 50) rfl (fun h2 => ?_) (fun h2 => ?_)
    · skip
      have hng_ : ¬ (kf (h k)) < (kf (h i)) := (by have q_ := h2; simpa using q_)
      refine dl0 (gy rfl rfl rfl rfl rfl rfl) rfl rfl (step_mv rfl rfl) trivial ?_
      refine dl0 (gy rfl rfl rfl rfl rfl rfl) rfl rfl (step_nilCheck rfl (ev_mk rfl) (.inl ⟨_, _, rfl⟩)) trivial ?_
      refine dl0 (gy rfl rfl rfl rfl rfl rfl) rfl rfl (step_fieldAddr (off := 1) rfl (ev_mk rfl) Try.underlying59 rfl F.sz3 rfl) trivial ?_
      refine' dl0 (gy rfl rfl rfl rfl rfl rfl) rfl rfl (step_load_one rfl (ev_mk rfl) F.one3 ?hv) ⟨?hb, trivial⟩ ?_
      case hb => repeat (first | exact uE | refine uN (by omega) ?_ | assumption | exact hd _ (by omega) | fail)
      case hv => rfl
      refine dl0 (gy rfl rfl rfl rfl rfl rfl) rfl rfl (step_mv rfl rfl) trivial ?_
      refine dl0 (gy rfl rfl rfl rfl rfl rfl) rfl rfl (step_nilCheck rfl (ev_mk rfl) (.inl ⟨_, _, rfl⟩)) trivial ?_
      refine dl0 (gy rfl rfl rfl rfl rfl rfl) rfl rfl (step_fieldAddr (off := 1) rfl (ev_mk rfl) Try.underlying59 rfl F.sz3 rfl) trivial ?_
      refine' dl0 (gy rfl rfl rfl rfl rfl rfl) rfl rfl (step_load_one rfl (ev_mk rfl) F.one3 ?hv) ⟨?hb, trivial⟩ ?_
      case hb => repeat (first | exact uE | refine uN (by omega) ?_ | assumption | exact hd _ (by omega) | fail)
      case hv => rfl
      refine dl_lss (gy rfl rfl rfl rfl rfl rfl) rfl rfl rfl rfl rfl (fun h3 => ?_) (fun h3 => ?_)
      · skip
        have hem_ : true = decide (ltK kf (h i) (h k)) := (decide_eq_true (by unfold ltK; omega)).symm
        refine dl0 (gn rfl) rfl rfl (step_pick rfl (ev_mk rfl) (ev_mk rfl)) trivial ?_
        refine dl0 (gn rfl) rfl rfl (step_as rfl rfl) trivial ?_
        refine dlnil ?_ ?_
        · repeat' (first | exact trivial | exact .inr (ap0 _ _ _ _) | exact .inr (ap2 _ _ _ _) | exact .inr (ap3 _ _ _ _) | exact .inr ⟨by first | (simp; done) | (simp; omega), by first | (simp; done) | (simp; omega)⟩ | exact .inl (by kernel_rfl) | refine ⟨?_, ?_⟩ | fail)
        refine runs_ret ?_
        refine ⟨by first | exact .inr rfl | exact .inl rfl, fin_mkg (rest rfl res0) ?_ ?_ ?_ ?_ ?_⟩
        · (repeat' (first | exact VLe.refl _ | exact VLe.own_sl _ _ _ | exact VLe.fl_sl _ _ | exact VLe.nil_sl _ | exact VLe.nil_fl _ | exact VLes.refl _ | exact .nil | refine VLe.tup ?_ | refine VLe.agg ?_ | refine .cons ?_ ?_ | (rw [Int.natCast_add]; exact VLe.refl _) | exact vle_int (by omega) | exact vle_bool (by first | rfl | assumption | (simp_all; done) | fail) | fail))
        · repeat (first | exact trivial | assumption | omega | (refine bdR_map (fun _ => ?_)) | (refine bdL_map (fun _ => ?_)) | refine ⟨?_, ?_⟩ | fail)
        · intro k_ hk_; exact ble (by repeat (first | exact rfl | refine uN (by omega) ?_ | assumption | fail))
        · intro p hp; cases hp
        · repeat (first | exact trivial | assumption | omega | (refine bdR_map (fun _ => ?_)) | (refine bdL_map (fun _ => ?_)) | refine ⟨?_, ?_⟩ | fail)
      · skip
        have hem_ : false = decide (ltK kf (h i) (h k)) := (decide_eq_false (by unfold ltK; omega)).symm
        refine dl0 (gn rfl) rfl rfl (step_pick rfl (ev_mk rfl) (ev_mk rfl)) trivial ?_
        refine dl0 (gn rfl) rfl rfl (step_as rfl rfl) trivial ?_
        refine dlnil ?_ ?_
        · repeat' (first | exact trivial | exact .inr (ap0 _ _ _ _) | exact .inr (ap2 _ _ _ _) | exact .inr (ap3 _ _ _ _) | exact .inr ⟨by first | (simp; done) | (simp; omega), by first | (simp; done) | (simp; omega)⟩ | exact .inl (by kernel_rfl) | refine ⟨?_, ?_⟩ | fail)
        refine runs_ret ?_
        refine ⟨by first | exact .inr rfl | exact .inl rfl, fin_mkg (rest rfl res0) ?_ ?_ ?_ ?_ ?_⟩
        · (repeat' (first | exact VLe.refl _ | exact VLe.own_sl _ _ _ | exact VLe.fl_sl _ _ | exact VLe.nil_sl _ | exact VLe.nil_fl _ | exact VLes.refl _ | exact .nil | refine VLe.tup ?_ | refine VLe.agg ?_ | refine .cons ?_ ?_ | (rw [Int.natCast_add]; exact VLe.refl _) | exact vle_int (by omega) | exact vle_bool (by first | rfl | assumption | (simp_all; done) | fail) | fail))
        · repeat (first | exact trivial | assumption | omega | (refine bdR_map (fun _ => ?_)) | (refine bdL_map (fun _ => ?_)) | refine ⟨?_, ?_⟩ | fail)
        · intro k_ hk_; exact ble (by repeat (first | exact rfl | refine uN (by omega) ?_ | assumption | fail))
        · intro p hp; cases hp
        · repeat (first | exact trivial | assumption | omega | (refine bdR_map (fun _ => ?_)) | (refine bdL_map (fun _ => ?_)) | refine ⟨?_, ?_⟩ | fail)
    · skip
      have hgt_ : (kf (h k)) < (kf (h i)) := (by have q_ := h2; simpa using q_)
      have hem_ : false = decide (ltK kf (h i) (h k)) := (decide_eq_false (by unfold ltK; omega)).symm
      refine dlk rfl rfl rfl rfl rfl (ngb rfl rfl) rfl rfl ?_
      refine dlk rfl rfl rfl rfl rfl (ngb rfl rfl) rfl rfl ?_
      refine dlk rfl rfl rfl rfl rfl (ngb rfl rfl) rfl rfl ?_
      refine dlk rfl rfl rfl rfl rfl (ngb rfl rfl) rfl rfl ?_
      refine dlk rfl rfl rfl rfl rfl (ngb rfl rfl) rfl rfl ?_
      refine dlk rfl rfl rfl rfl rfl (ngb rfl rfl) rfl rfl ?_
      refine dlk rfl rfl rfl rfl rfl (ngb rfl rfl) rfl rfl ?_
      refine dlk rfl rfl rfl rfl rfl (ngb rfl rfl) rfl rfl ?_
      refine dlk rfl rfl rfl rfl rfl (ngb rfl rfl) rfl rfl ?_
      refine dl0 (gn rfl) rfl rfl (step_pick rfl (ev_mk rfl) (ev_mk rfl)) trivial ?_
      refine dl0 (gn rfl) rfl rfl (step_as rfl rfl) trivial ?_
      refine dlnil ?_ ?_
      · repeat' (first | exact trivial | exact .inr (ap0 _ _ _ _) | exact .inr (ap2 _ _ _ _) | exact .inr (ap3 _ _ _ _) | exact .inr ⟨by first | (simp; done) | (simp; omega), by first | (simp; done) | (simp; omega)⟩ | exact .inl (by kernel_rfl) | refine ⟨?_, ?_⟩ | fail)
      refine runs_ret ?_
      refine ⟨by first | exact .inr rfl | exact .inl rfl, fin_mkg (rest rfl res0) ?_ ?_ ?_ ?_ ?_⟩
      · (repeat' (first | exact VLe.refl _ | exact VLe.own_sl _ _ _ | exact VLe.fl_sl _ _ | exact VLe.nil_sl _ | exact VLe.nil_fl _ | exact VLes.refl _ | exact .nil | refine VLe.tup ?_ | refine VLe.agg ?_ | refine .cons ?_ ?_ | (rw [Int.natCast_add]; exact VLe.refl _) | exact vle_int (by omega) | exact vle_bool (by first | rfl | assumption | (simp_all; done) | fail) | fail))
      · repeat (first | exact trivial | assumption | omega | (refine bdR_map (fun _ => ?_)) | (refine bdL_map (fun _ => ?_)) | refine ⟨?_, ?_⟩ | fail)
      · intro k_ hk_; exact ble (by repeat (first | exact rfl | refine uN (by omega) ?_ | assumption | fail))
      · intro p hp; cases hp
      · repeat (first | exact trivial | assumption | omega | (refine bdR_map (fun _ => ?_)) | (refine bdL_map (fun _ => ?_)) | refine ⟨?_, ?_⟩ | fail)
end Go.Proofs.Ytggeejghchnpaaa
