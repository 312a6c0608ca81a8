/- Walks by the logic of values. -/
import Derived.Test.YtggeejghchnpaaaKrVmT
import Derived.Test.YtggeejghchnpaaaKrVmP
import Derived.Test.YtggeejghchnpaaaKrVmV
import Derived.Test.YtggeejghchnpaaaKrVmY
import Derived.Test.YtggeejghchnpaaaKrVa
import Derived.Test.YtggeejghchnpaaaKrVb
import Derived.Test.YtggeejghchnpaaaKrVc
import Derived.Test.YtggeejghchnpaaaKrVd
import Derived.Test.YtggeejghchnpaaaKrVe
import Derived.Test.YtggeejghchnpaaaKrVf
import Derived.Test.YtggeejghchnpaaaKrVg
namespace Go.Proofs.Ytggeejghchnpaaa
open Go.Vm
set_option linter.unusedVariables false
set_option linter.unusedSimpArgs false
def topK (kf : Nat → Int) (h : Nat → Nat) (L : Nat) : Int := if L = 0 then 0 else kf (h 0)

abbrev itR (x : Itm) : List V := [.sc (.int .i64 x.k), .sc (.int .i64 ((x.n : Nat) : Int))]
theorem oat {l : List Itm} {i : Nat} (h : (i : Int) < l.length) : l[i]? = some (at' l (i : Int)) := by
  rw [List.getElem?_eq_getElem (by omega), at_nat _ _ (by omega)]
def insP (l : List Itm) (x : Itm) (i : Nat) : Bool := (l.take i).any fun y => decide (ltI x y)
def insO (l : List Itm) (x : Itm) (i : Nat) : List Itm := if insP l x i = true then insR (l.take i) x else l.take i
theorem insR_app : ∀ {l : List Itm} {x y : Itm}, (l.any fun y => decide (ltI x y)) = true → insR (l ++ [y]) x = insR l x ++ [y]
  | [], x, y, h => by simp at h
  | z :: l, x, y, h => by
    show (if ltI x z then _ else _) = (if ltI x z then _ else _) ++ [y]
    by_cases q : ltI x z
    · rw [if_pos q, if_pos q]; rfl
    · rw [if_neg q, if_neg q]; show z :: insR (l ++ [y]) x = z :: (insR l x ++ [y]); rw [insR_app (l := l) (by simpa [q] using h)]
theorem insR_end : ∀ {l : List Itm} {x : Itm}, (l.any fun y => decide (ltI x y)) = false → insR l x = l ++ [x]
  | [], x, h => rfl
  | z :: l, x, h => by
    have h1 : ¬ ltI x z := by intro q; simp [q] at h
    show (if ltI x z then _ else _) = _
    rw [if_neg h1, insR_end (l := l) (by simpa [h1] using h)]; rfl
theorem insR_put : ∀ {l : List Itm} {x y : Itm}, (l.any fun y => decide (ltI x y)) = false → ltI x y → insR (l ++ [y]) x = l ++ [x, y]
  | [], x, y, h, hy => by show (if ltI x y then _ else _) = _; rw [if_pos hy]; rfl
  | z :: l, x, y, h, hy => by
    have h1 : ¬ ltI x z := by intro q; simp [q] at h
    show (if ltI x z then _ else _) = _
    rw [if_neg h1]; show z :: insR (l ++ [y]) x = _; rw [insR_put (l := l) (by simpa [h1] using h) hy]; rfl
theorem insP_s {l : List Itm} {x : Itm} {i : Nat} (hi : (i : Int) < l.length) : insP l x (i + 1) = (insP l x i || decide (ltI x (at' l (i : Int)))) := by
  unfold insP; rw [List.take_add_one, oat hi]; simp
theorem insO_1 {l : List Itm} {x : Itm} {i : Nat} (hi : (i : Int) < l.length) (hp : insP l x i = true) : insO l x (i + 1) = insO l x i ++ [at' l (i : Int)] := by
  unfold insO; rw [insP_s hi, hp, Bool.true_or, if_pos rfl, if_pos rfl, List.take_add_one, oat hi]
  exact insR_app hp
theorem insO_2 {l : List Itm} {x : Itm} {i : Nat} (hi : (i : Int) < l.length) (hp : insP l x i = false) (hl : ltI x (at' l (i : Int))) : insO l x (i + 1) = insO l x i ++ [x] ++ [at' l (i : Int)] := by
  unfold insO; rw [insP_s hi, hp, Bool.false_or, if_pos (decide_eq_true hl), if_neg (by simp), List.take_add_one, oat hi]
  show insR (_ ++ [_]) x = _
  rw [insR_put hp hl]; simp
theorem insO_3 {l : List Itm} {x : Itm} {i : Nat} (hi : (i : Int) < l.length) (hp : insP l x i = false) (hl : ¬ ltI x (at' l (i : Int))) : insO l x (i + 1) = insO l x i ++ [at' l (i : Int)] := by
  unfold insO; rw [insP_s hi, hp, Bool.false_or, if_neg (by simpa using hl), if_neg (by simp), List.take_add_one, oat hi]; rfl
theorem insO_e1 {l : List Itm} {x : Itm} {i : Nat} (hi : l.length ≤ i) (hp : insP l x i = true) : insO l x i = insR l x := by
  unfold insO; rw [if_pos hp, List.take_of_length_le hi]
theorem insO_e2 {l : List Itm} {x : Itm} {i : Nat} (hi : l.length ≤ i) (hp : insP l x i = false) : insO l x i ++ [x] = insR l x := by
  unfold insO; rw [if_neg (by simp [hp]), List.take_of_length_le hi]; unfold insP at hp; rw [List.take_of_length_le hi] at hp; exact (insR_end hp).symm
theorem insO_len (l : List Itm) (x : Itm) (i : Nat) : (insO l x i).length ≤ l.length + 1 := by
  unfold insO; split
  · rw [insR_len]; have := (List.take_sublist i l).length_le; omega
  · have := (List.take_sublist i l).length_le; omega
set_option maxRecDepth 100000 in
set_option maxHeartbeats 4000000 in
theorem insert_c (l : List Itm) (x : Itm) (hl : l.length ≤ 1000) : Does Try.prog 9 [.sl 2 (l.map itR), .agg (itR x)] [] [] (.sl 2 ((insR l x).map itR)) := by
  refine does_mkg 40 Try.func9 rfl rfl rfl (fun n B bx hd hpre hup hvs hbx hgx => ?_)
  refine runs_seq ?_
  refine runs_region ?_
  refine rl1 (gn rfl) rfl rfl (step_box_agg (k := n + 0) rfl rfl) ⟨by repeat (first | exact uE | refine uN (by omega) ?_ | assumption | exact hd _ (by omega) | fail), trivial⟩ (by omega) ?_
  refine rl0 (gn rfl) rfl rfl (step_as rfl rfl) trivial ?_
  refine runsL_nil ?_
  refine runs_seq ?_
  refine runs_region ?_
  refine rl0 (gn rfl) rfl rfl (step_as rfl rfl) trivial ?_
  refine runsL_nil ?_
  refine runs_seq ?_
  refine runs_region ?_
  refine rl0 (gn rfl) rfl rfl (step_as rfl rfl) trivial ?_
  refine runsL_nil ?_
  refine runs_seq ?_
  refine runs_seq ?_
  refine runs_region ?_
  refine rl0 (gn rfl) rfl rfl (step_as rfl rfl) trivial ?_
  refine runsL_nil ?_
  refine runs_block ?_
  refine runs_grow (l' := []) (d := 5) (k := n + 1) (e := 2) (xs := []) rfl (.inr ⟨rfl, rfl⟩) (by repeat (first | exact uE | refine uN (by omega) ?_ | assumption | exact hd _ (by omega) | fail)) (by omega) ?_
  have hs0_ : [] = ((insO l x 0).map itR) := by rfl
  have hs1_ : false = insP l x 0 := by rfl
  refine runs_loop (fun (ri_ : Nat) (st_ : Go.Vm.S) => ∃ (i : Nat) (m0 : Nat) (b0 : Nat → Box), (st_ = ⟨mk [(0, .sl 2 (l.map itR)), (3, .ref (n + 0) 0), (4, .sc (.slice none 0 0)), (5, .own 2 ((insO l x i).map itR) (n + 1)), (6, .sc (.bool (insP l x i))), (7, .sc (.int .i64 (i : Int)))], m0, b0⟩) ∧ (ri_ = 1 + (l.length - i)) ∧ (n + 2 ≤ m0) ∧ (∀ k_, k_ < n → b0 k_ = bx k_) ∧ (b0 (n + 0) = .cells [.sc (.int .i64 x.k), .sc (.int .i64 ((x.n : Nat) : Int))]) ∧ (b0 (n + 1) = .tail ((insO l x i).map itR).length) ∧ (i ≤ l.length)) (1 + (l.length - 0)) ⟨_, sle ?_ (Nat.le_refl _), 0, _, _, rfl, rfl, ?_⟩ ?_
  · (repeat' (first | exact trivial | refine ⟨⟨_, rfl, ?_⟩, ?_⟩ | fail)); all_goals (repeat' (first | exact VLe.refl _ | exact VLe.own_sl _ _ _ | exact VLe.fl_sl _ _ | exact VLe.nil_sl _ | exact VLe.nil_fl _ | exact VLes.refl _ | exact .nil | refine VLe.tup ?_ | refine VLe.agg ?_ | refine .cons ?_ ?_ | (rw [Int.natCast_add]; exact VLe.refl _) | exact vle_int (by omega) | exact vle_bool (by first | rfl | assumption | (simp_all; done) | fail) | (rw [← hs0_]; exact VLe.refl _) | (rw [hs0_]; exact VLe.refl _) | (rw [← hs1_]; exact VLe.refl _) | (rw [hs1_]; exact VLe.refl _) | fail))
  · exact ⟨by omega, (fun k_ hk_ => by repeat (first | exact rfl | refine uN (by omega) ?_ | assumption | fail)), by first | ((repeat (first | exact uE | assumption | refine uN (by omega) ?_ | fail)); done) | exact tl_eq (by repeat (first | exact uE | assumption | refine uN (by omega) ?_ | fail)) (by first | rfl | (simp [bytesV, beB_len]; done) | (simp [bytesV, beB_len]; omega) | omega) | (rw [← hs0_]; (repeat (first | exact uE | assumption | refine uN (by omega) ?_ | fail)); done) | (rw [← hs1_]; (repeat (first | exact uE | assumption | refine uN (by omega) ?_ | fail)); done) | (rw [← hs0_, ← hs1_]; (repeat (first | exact uE | assumption | refine uN (by omega) ?_ | fail)); done), by first | ((repeat (first | exact uE | assumption | refine uN (by omega) ?_ | fail)); done) | exact tl_eq (by repeat (first | exact uE | assumption | refine uN (by omega) ?_ | fail)) (by first | rfl | (simp [bytesV, beB_len]; done) | (simp [bytesV, beB_len]; omega) | omega) | (rw [← hs0_]; (repeat (first | exact uE | assumption | refine uN (by omega) ?_ | fail)); done) | (rw [← hs1_]; (repeat (first | exact uE | assumption | refine uN (by omega) ?_ | fail)); done) | (rw [← hs0_, ← hs1_]; (repeat (first | exact uE | assumption | refine uN (by omega) ?_ | fail)); done), by omega⟩
  · rintro _ _ ⟨i, m0, b0, rfl, rfl, hm0, hf0, hB0_0, hB0_1, hF0_0⟩
    refine runs_know (fun hd0 => ?_)
    refine runs_bump 20 ?_
    simp only at hd0
    have hol_ := insO_len l x i
    refine runs_seq ?_
    refine runs_seq ?_
    refine runs_region ?_
    refine rl0 (gn rfl) rfl rfl (step_mv rfl rfl) trivial ?_
    refine rl0 (gn rfl) rfl rfl (step_mv rfl rfl) trivial ?_
    refine rl0 (gn rfl) rfl rfl (step_len (m := l.length) rfl rfl (ev_mk rfl) (.inl ⟨⟨_, Try.underlying27⟩, .inl ⟨_, _, .inl rfl, List.length_map _⟩⟩)) trivial ?_
    refine rl_lss (gn rfl) rfl rfl rfl rfl rfl (fun h1 => ?_) (fun h1 => ?_)
    · skip
      refine runsL_nil ?_
      refine runs_cond true (ev_mk rfl) (fun _ => ?_) (fun h_ => nomatch h_)
      refine runs_skip ?_
      refine runs_seq ?_
      refine runs_block ?_
      refine runs_seq ?_
      refine runs_seq ?_
      refine runs_draw (by kernel_rfl) (by kernel_rfl) (by kernel_rfl) ?_
      refine dl0 (gn rfl) rfl rfl (step_mv rfl rfl) trivial ?_
      refine dl0 (gn rfl) rfl rfl (step_unOp rfl (ev_mk rfl) (fun _ => rfl)) trivial ?_
      refine dl0 (gn rfl) rfl rfl (step_mv rfl rfl) trivial ?_
      refine dl_bool (d := 16) rfl (fun h2 => ?_) (fun h2 => ?_)
      · skip
        have hp_ : insP l x i = false := (by simpa using h2)
        refine dl0 (gy rfl rfl rfl rfl rfl rfl) rfl rfl (step_fieldAddr (off := 0) rfl (ev_mk rfl) Try.underlying33 rfl F.sz3 rfl) trivial ?_
        refine' dl0 (gy rfl rfl rfl rfl rfl rfl) rfl rfl (step_load_one rfl (ev_mk rfl) F.one3 ?hv) ⟨?hb, trivial⟩ ?_
        case hb => repeat (first | exact uE | refine uN (by omega) ?_ | assumption | exact hd _ (by omega) | exact hd0 _ (by omega) | fail)
        case hv => rfl
        refine dl0 (gy rfl rfl rfl rfl rfl rfl) rfl rfl (step_mv rfl rfl) trivial ?_
        refine dl0 (gy rfl rfl rfl rfl rfl rfl) rfl rfl (step_mv rfl rfl) trivial ?_
        refine' dl0 (gy rfl rfl rfl rfl rfl rfl) rfl rfl (step_index rfl (ev_mk rfl) (.inl rfl) (ev_mk rfl) Try.underlying27 F.sz33 (by omega) ?hr) trivial ?_
        case hr => exact map_at _ _ _ (by omega) (by omega)
        refine dl0 (gy rfl rfl rfl rfl rfl rfl) rfl rfl (step_fieldAddr_ro (off := 0) rfl (ev_mk rfl) Try.underlying33 rfl F.sz3 rfl rfl) trivial ?_
        refine dl0 (gy rfl rfl rfl rfl rfl rfl) rfl rfl (step_load_ro rfl (ev_mk rfl) F.one3 rfl) trivial ?_
        refine dl_lss (gy rfl rfl rfl rfl rfl rfl) rfl rfl rfl rfl rfl (fun h3 => ?_) (fun h3 => ?_)
        · skip
          have hlt_ : ltI x (at' l (i : Int)) := (by unfold ltI; omega)
          refine dl0 (gy rfl rfl rfl rfl rfl rfl) rfl rfl (step_mv rfl rfl) trivial ?_
          refine dlk rfl rfl rfl rfl rfl (ngb rfl rfl) rfl rfl ?_
          refine dlk rfl rfl rfl rfl rfl (ngb rfl rfl) rfl rfl ?_
          refine dlk rfl rfl rfl rfl rfl (ngb rfl rfl) rfl rfl ?_
          refine dlk rfl rfl rfl rfl rfl (ngb rfl rfl) rfl rfl ?_
          refine dlk rfl rfl rfl rfl rfl (ngb rfl rfl) rfl rfl ?_
          refine dlk rfl rfl rfl rfl rfl (ngb rfl rfl) rfl rfl ?_
          refine dlk rfl rfl rfl rfl rfl (ngb rfl rfl) rfl rfl ?_
          refine dlk rfl rfl rfl rfl rfl (ngb rfl rfl) rfl rfl ?_
          refine dlk rfl rfl rfl rfl rfl (ngb rfl rfl) rfl rfl ?_
          refine dlk rfl rfl rfl rfl rfl (ngu rfl) rfl rfl ?_
          refine dlk rfl rfl rfl rfl rfl (ngu rfl) rfl rfl ?_
          refine dlk rfl rfl rfl rfl rfl (ngu rfl) rfl rfl ?_
          refine dlk rfl rfl rfl rfl rfl (ngu rfl) rfl rfl ?_
          refine dlk rfl rfl rfl rfl rfl (ngu rfl) rfl rfl ?_
          refine dlk rfl rfl rfl rfl rfl (ngu rfl) rfl rfl ?_
          refine dlk rfl rfl rfl rfl rfl (ngu rfl) rfl rfl ?_
          refine dlk rfl rfl rfl rfl rfl (ngu rfl) rfl rfl ?_
          refine dlk rfl rfl rfl rfl rfl (ngb rfl rfl) rfl rfl ?_
          refine dl0 (gy rfl rfl rfl rfl rfl rfl) rfl rfl (step_pick rfl (ev_mk rfl) (ev_mk rfl)) trivial ?_
          refine dl0 (gn rfl) rfl rfl (step_pick rfl (ev_mk rfl) (ev_mk rfl)) trivial ?_
          refine dlnil ?_ ?_
          · repeat' (first | exact trivial | exact .inr (ap0 _ _ _ _) | exact .inr (ap2 _ _ _ _) | exact .inr (ap3 _ _ _ _) | exact .inr ⟨by first | (simp; done) | (simp; omega), by first | (simp; done) | (simp; omega)⟩ | exact .inl (by kernel_rfl) | refine ⟨?_, ?_⟩ | fail)
          refine runs_cond true (ev_mk rfl) (fun _ => ?_) (fun h_ => nomatch h_)
          refine runs_seq ?_
          refine runs_region ?_
          refine rl0 (gn rfl) rfl rfl (step_mv rfl rfl) trivial ?_
          refine' rl0 (gn rfl) rfl rfl (step_load_all rfl rfl F.agg33 ?hl) ⟨?hb, trivial⟩ ?_
          case hb => repeat (first | exact uE | refine uN (by omega) ?_ | assumption | exact hd _ (by omega) | exact hd0 _ (by omega) | fail)
          case hl => first | rfl | (simp; done) | (first | (simp; done) | (simp; omega) | omega)
          refine rl0 (gn rfl) rfl rfl (step_lit rfl Try.underlying27 F.sz33 F.zero33 (by first | rfl | simp) (by first | rfl | simp | decide) (by decide) rfl rfl (by first | (simp [V.cs, V.stor, oneV]; done) | (simp [V.cs, V.stor, oneV])) rfl) trivial ?_
          refine' rl1 (gn rfl) rfl rfl (step_append_own rfl rfl rfl Try.underlying27 ⟨_, Try.underlying27, fun k_ => by intro h_; cases h_⟩ F.el33 (ev_mk rfl) (ev_mk rfl) (gives_sl (.inr (.inl rfl))) ?hg) ⟨?hb, trivial⟩ (by omega) ?_
          case hb => repeat (first | exact uE | refine uN (by omega) ?_ | assumption | exact hd _ (by omega) | exact hd0 _ (by omega) | fail)
          case hg => first | (simp; omega) | (simp; done) | omega
          refine rl0 (gn rfl) rfl rfl (step_as rfl rfl) trivial ?_
          refine runsL_nil ?_
          refine runs_region ?_
          refine rl0 (gn rfl) rfl rfl (step_as rfl rfl) trivial ?_
          refine runsL_nil ?_
          refine runs_region ?_
          refine rl0 (gn rfl) rfl rfl (step_mv rfl rfl) trivial ?_
          refine rl0 (gn rfl) rfl rfl (step_mv rfl rfl) trivial ?_
          refine rl0 (gn rfl) rfl rfl (step_mv rfl rfl) trivial ?_
          refine' rl0 (gn rfl) rfl rfl (step_index rfl (ev_mk rfl) (.inl rfl) (ev_mk rfl) Try.underlying27 F.sz33 (by omega) ?hr) trivial ?_
          case hr => exact map_at _ _ _ (by omega) (by omega)
          refine rl0 (gn rfl) rfl rfl (step_load_ro_all rfl rfl F.agg33 (by first | rfl | (simp; done) | (first | (simp; done) | (simp; omega) | omega))) trivial ?_
          refine rl0 (gn rfl) rfl rfl (step_lit rfl Try.underlying27 F.sz33 F.zero33 (by first | rfl | simp) (by first | rfl | simp | decide) (by decide) rfl rfl (by first | (simp [V.cs, V.stor, oneV]; done) | (simp [V.cs, V.stor, oneV])) rfl) trivial ?_
          refine' rl1 (gn rfl) rfl rfl (step_append_own rfl rfl rfl Try.underlying27 ⟨_, Try.underlying27, fun k_ => by intro h_; cases h_⟩ F.el33 (ev_mk rfl) (ev_mk rfl) (gives_sl (.inr (.inl rfl))) ?hg) ⟨?hb, trivial⟩ (by omega) ?_
          case hb => repeat (first | exact uE | refine uN (by omega) ?_ | assumption | exact hd _ (by omega) | exact hd0 _ (by omega) | fail)
          case hg => first | (simp; omega) | (simp; done) | omega
          refine rl0 (gn rfl) rfl rfl (step_as rfl rfl) trivial ?_
          refine runsL_nil ?_
          refine runs_region ?_
          refine rl0 (gn rfl) rfl rfl (step_mv rfl rfl) trivial ?_
          refine rl0 (gn rfl) rfl rfl (step_add rfl (ev_mk rfl) (ev_mk rfl) (w64 (by omega))) trivial ?_
          refine rl0 (gn rfl) rfl rfl (step_as rfl rfl) trivial ?_
          refine runsL_nil ?_
          have hq0_ : (((insO l x i).map itR) ++ [[V.sc (.int .i64 x.k), V.sc (.int .i64 ((x.n : Nat) : Int))]] ++ [[V.sc (.int .i64 (at' l (i : Int)).k), V.sc (.int .i64 (((at' l (i : Int)).n : Nat) : Int))]]) = ((insO l x (i + 1)).map itR) := by (rw [insO_2 (by omega) hp_ hlt_]; simp)
          have hq1_ : true = insP l x (i + 1) := by (rw [insP_s (by omega), hp_, decide_eq_true hlt_]; rfl)
          refine ⟨_, _, ?_, sle ?_ (Nat.le_refl _), (i + 1), _, _, rfl, rfl, by omega, (fun k_ hk_ => by repeat (first | exact hf0 k_ hk_ | refine uN (by first | assumption | omega) ?_ | fail)), by first | ((repeat (first | exact uE | assumption | refine uN (by omega) ?_ | fail)); done) | exact tl_eq (by repeat (first | exact uE | assumption | refine uN (by omega) ?_ | fail)) (by first | rfl | (simp [bytesV, beB_len]; done) | (simp [bytesV, beB_len]; omega) | omega) | (rw [← hq0_]; (repeat (first | exact uE | assumption | refine uN (by omega) ?_ | fail)); done) | (rw [← hq1_]; (repeat (first | exact uE | assumption | refine uN (by omega) ?_ | fail)); done) | (rw [← hq0_, ← hq1_]; (repeat (first | exact uE | assumption | refine uN (by omega) ?_ | fail)); done), by first | ((repeat (first | exact uE | assumption | refine uN (by omega) ?_ | fail)); done) | exact tl_eq (by repeat (first | exact uE | assumption | refine uN (by omega) ?_ | fail)) (by first | rfl | (simp [bytesV, beB_len]; done) | (simp [bytesV, beB_len]; omega) | omega) | (rw [← hq0_]; (repeat (first | exact uE | assumption | refine uN (by omega) ?_ | fail)); done) | (rw [← hq1_]; (repeat (first | exact uE | assumption | refine uN (by omega) ?_ | fail)); done) | (rw [← hq0_, ← hq1_]; (repeat (first | exact uE | assumption | refine uN (by omega) ?_ | fail)); done), by omega⟩
          · omega
          · (repeat' (first | exact trivial | refine ⟨⟨_, rfl, ?_⟩, ?_⟩ | fail)); all_goals (repeat' (first | exact VLe.refl _ | exact VLe.own_sl _ _ _ | exact VLe.fl_sl _ _ | exact VLe.nil_sl _ | exact VLe.nil_fl _ | exact VLes.refl _ | exact .nil | refine VLe.tup ?_ | refine VLe.agg ?_ | refine .cons ?_ ?_ | (rw [Int.natCast_add]; exact VLe.refl _) | exact vle_int (by omega) | exact vle_bool (by first | rfl | assumption | (simp_all; done) | fail) | (rw [← hq0_]; exact VLe.refl _) | (rw [hq0_]; exact VLe.refl _) | (rw [← hq1_]; exact VLe.refl _) | (rw [hq1_]; exact VLe.refl _) | fail))
        · skip
          refine dl0 (gy rfl rfl rfl rfl rfl rfl) rfl rfl (step_mv rfl rfl) trivial ?_
          refine dl0 (gy rfl rfl rfl rfl rfl rfl) rfl rfl (step_fieldAddr (off := 0) rfl (ev_mk rfl) Try.underlying33 rfl F.sz3 rfl) trivial ?_
          refine' dl0 (gy rfl rfl rfl rfl rfl rfl) rfl rfl (step_load_one rfl (ev_mk rfl) F.one3 ?hv) ⟨?hb, trivial⟩ ?_
          case hb => repeat (first | exact uE | refine uN (by omega) ?_ | assumption | exact hd _ (by omega) | exact hd0 _ (by omega) | fail)
          case hv => rfl
          refine dl0 (gy rfl rfl rfl rfl rfl rfl) rfl rfl (step_mv rfl rfl) trivial ?_
          refine dl0 (gy rfl rfl rfl rfl rfl rfl) rfl rfl (step_mv rfl rfl) trivial ?_
          refine' dl0 (gy rfl rfl rfl rfl rfl rfl) rfl rfl (step_index rfl (ev_mk rfl) (.inl rfl) (ev_mk rfl) Try.underlying27 F.sz33 (by omega) ?hr) trivial ?_
          case hr => exact map_at _ _ _ (by omega) (by omega)
          refine dl0 (gy rfl rfl rfl rfl rfl rfl) rfl rfl (step_fieldAddr_ro (off := 0) rfl (ev_mk rfl) Try.underlying33 rfl F.sz3 rfl rfl) trivial ?_
          refine dl0 (gy rfl rfl rfl rfl rfl rfl) rfl rfl (step_load_ro rfl (ev_mk rfl) F.one3 rfl) trivial ?_
          refine dl_eql (gy rfl rfl rfl rfl rfl rfl) rfl rfl rfl rfl rfl (fun h4 => ?_) (fun h4 => ?_)
          · skip
            refine dl0 (gy rfl rfl rfl rfl rfl rfl) rfl rfl (step_mv rfl rfl) trivial ?_
            refine dl0 (gy rfl rfl rfl rfl rfl rfl) rfl rfl (step_fieldAddr (off := 1) rfl (ev_mk rfl) Try.underlying33 rfl F.sz3 rfl) trivial ?_
            refine' dl0 (gy rfl rfl rfl rfl rfl rfl) rfl rfl (step_load_one rfl (ev_mk rfl) F.one3 ?hv) ⟨?hb, trivial⟩ ?_
            case hb => repeat (first | exact uE | refine uN (by omega) ?_ | assumption | exact hd _ (by omega) | exact hd0 _ (by omega) | fail)
            case hv => rfl
            refine dl0 (gy rfl rfl rfl rfl rfl rfl) rfl rfl (step_mv rfl rfl) trivial ?_
            refine dl0 (gy rfl rfl rfl rfl rfl rfl) rfl rfl (step_mv rfl rfl) trivial ?_
            refine' dl0 (gy rfl rfl rfl rfl rfl rfl) rfl rfl (step_index rfl (ev_mk rfl) (.inl rfl) (ev_mk rfl) Try.underlying27 F.sz33 (by omega) ?hr) trivial ?_
            case hr => exact map_at _ _ _ (by omega) (by omega)
            refine dl0 (gy rfl rfl rfl rfl rfl rfl) rfl rfl (step_fieldAddr_ro (off := 1) rfl (ev_mk rfl) Try.underlying33 rfl F.sz3 rfl rfl) trivial ?_
            refine dl0 (gy rfl rfl rfl rfl rfl rfl) rfl rfl (step_load_ro rfl (ev_mk rfl) F.one3 rfl) trivial ?_
            refine dl_lss (gy rfl rfl rfl rfl rfl rfl) rfl rfl rfl rfl rfl (fun h5 => ?_) (fun h5 => ?_)
            · skip
              have hlt_ : ltI x (at' l (i : Int)) := (by unfold ltI; omega)
              refine dl0 (gy rfl rfl rfl rfl rfl rfl) rfl rfl (step_pick rfl (ev_mk rfl) (ev_mk rfl)) trivial ?_
              refine dl0 (gy rfl rfl rfl rfl rfl rfl) rfl rfl (step_pick rfl (ev_mk rfl) (ev_mk rfl)) trivial ?_
              refine dl0 (gn rfl) rfl rfl (step_pick rfl (ev_mk rfl) (ev_mk rfl)) trivial ?_
              refine dlnil ?_ ?_
              · repeat' (first | exact trivial | exact .inr (ap0 _ _ _ _) | exact .inr (ap2 _ _ _ _) | exact .inr (ap3 _ _ _ _) | exact .inr ⟨by first | (simp; done) | (simp; omega), by first | (simp; done) | (simp; omega)⟩ | exact .inl (by kernel_rfl) | refine ⟨?_, ?_⟩ | fail)
              refine runs_cond true (ev_mk rfl) (fun _ => ?_) (fun h_ => nomatch h_)
              refine runs_seq ?_
              refine runs_region ?_
              refine rl0 (gn rfl) rfl rfl (step_mv rfl rfl) trivial ?_
              refine' rl0 (gn rfl) rfl rfl (step_load_all rfl rfl F.agg33 ?hl) ⟨?hb, trivial⟩ ?_
              case hb => repeat (first | exact uE | refine uN (by omega) ?_ | assumption | exact hd _ (by omega) | exact hd0 _ (by omega) | fail)
              case hl => first | rfl | (simp; done) | (first | (simp; done) | (simp; omega) | omega)
              refine rl0 (gn rfl) rfl rfl (step_lit rfl Try.underlying27 F.sz33 F.zero33 (by first | rfl | simp) (by first | rfl | simp | decide) (by decide) rfl rfl (by first | (simp [V.cs, V.stor, oneV]; done) | (simp [V.cs, V.stor, oneV])) rfl) trivial ?_
              refine' rl1 (gn rfl) rfl rfl (step_append_own rfl rfl rfl Try.underlying27 ⟨_, Try.underlying27, fun k_ => by intro h_; cases h_⟩ F.el33 (ev_mk rfl) (ev_mk rfl) (gives_sl (.inr (.inl rfl))) ?hg) ⟨?hb, trivial⟩ (by omega) ?_
              case hb => repeat (first | exact uE | refine uN (by omega) ?_ | assumption | exact hd _ (by omega) | exact hd0 _ (by omega) | fail)
              case hg => first | (simp; omega) | (simp; done) | omega
              refine rl0 (gn rfl) rfl rfl (step_as rfl rfl) trivial ?_
              refine runsL_nil ?_
              refine runs_region ?_
              refine rl0 (gn rfl) rfl rfl (step_as rfl rfl) trivial ?_
              refine runsL_nil ?_
              refine runs_region ?_
              refine rl0 (gn rfl) rfl rfl (step_mv rfl rfl) trivial ?_
              refine rl0 (gn rfl) rfl rfl (step_mv rfl rfl) trivial ?_
              refine rl0 (gn rfl) rfl rfl (step_mv rfl rfl) trivial ?_
              refine' rl0 (gn rfl) rfl rfl (step_index rfl (ev_mk rfl) (.inl rfl) (ev_mk rfl) Try.underlying27 F.sz33 (by omega) ?hr) trivial ?_
              case hr => exact map_at _ _ _ (by omega) (by omega)
              refine rl0 (gn rfl) rfl rfl (step_load_ro_all rfl rfl F.agg33 (by first | rfl | (simp; done) | (first | (simp; done) | (simp; omega) | omega))) trivial ?_
              refine rl0 (gn rfl) rfl rfl (step_lit rfl Try.underlying27 F.sz33 F.zero33 (by first | rfl | simp) (by first | rfl | simp | decide) (by decide) rfl rfl (by first | (simp [V.cs, V.stor, oneV]; done) | (simp [V.cs, V.stor, oneV])) rfl) trivial ?_
              refine' rl1 (gn rfl) rfl rfl (step_append_own rfl rfl rfl Try.underlying27 ⟨_, Try.underlying27, fun k_ => by intro h_; cases h_⟩ F.el33 (ev_mk rfl) (ev_mk rfl) (gives_sl (.inr (.inl rfl))) ?hg) ⟨?hb, trivial⟩ (by omega) ?_
              case hb => repeat (first | exact uE | refine uN (by omega) ?_ | assumption | exact hd _ (by omega) | exact hd0 _ (by omega) | fail)
              case hg => first | (simp; omega) | (simp; done) | omega
              refine rl0 (gn rfl) rfl rfl (step_as rfl rfl) trivial ?_
              refine runsL_nil ?_
              refine runs_region ?_
              refine rl0 (gn rfl) rfl rfl (step_mv rfl rfl) trivial ?_
              refine rl0 (gn rfl) rfl rfl (step_add rfl (ev_mk rfl) (ev_mk rfl) (w64 (by omega))) trivial ?_
              refine rl0 (gn rfl) rfl rfl (step_as rfl rfl) trivial ?_
              refine runsL_nil ?_
              have hq0_ : (((insO l x i).map itR) ++ [[V.sc (.int .i64 x.k), V.sc (.int .i64 ((x.n : Nat) : Int))]] ++ [[V.sc (.int .i64 (at' l (i : Int)).k), V.sc (.int .i64 (((at' l (i : Int)).n : Nat) : Int))]]) = ((insO l x (i + 1)).map itR) := by (rw [insO_2 (by omega) hp_ hlt_]; simp)
              have hq1_ : true = insP l x (i + 1) := by (rw [insP_s (by omega), hp_, decide_eq_true hlt_]; rfl)
              refine ⟨_, _, ?_, sle ?_ (Nat.le_refl _), (i + 1), _, _, rfl, rfl, by omega, (fun k_ hk_ => by repeat (first | exact hf0 k_ hk_ | refine uN (by first | assumption | omega) ?_ | fail)), by first | ((repeat (first | exact uE | assumption | refine uN (by omega) ?_ | fail)); done) | exact tl_eq (by repeat (first | exact uE | assumption | refine uN (by omega) ?_ | fail)) (by first | rfl | (simp [bytesV, beB_len]; done) | (simp [bytesV, beB_len]; omega) | omega) | (rw [← hq0_]; (repeat (first | exact uE | assumption | refine uN (by omega) ?_ | fail)); done) | (rw [← hq1_]; (repeat (first | exact uE | assumption | refine uN (by omega) ?_ | fail)); done) | (rw [← hq0_, ← hq1_]; (repeat (first | exact uE | assumption | refine uN (by omega) ?_ | fail)); done), by first | ((repeat (first | exact uE | assumption | refine uN (by omega) ?_ | fail)); done) | exact tl_eq (by repeat (first | exact uE | assumption | refine uN (by omega) ?_ | fail)) (by first | rfl | (simp [bytesV, beB_len]; done) | (simp [bytesV, beB_len]; omega) | omega) | (rw [← hq0_]; (repeat (first | exact uE | assumption | refine uN (by omega) ?_ | fail)); done) | (rw [← hq1_]; (repeat (first | exact uE | assumption | refine uN (by omega) ?_ | fail)); done) | (rw [← hq0_, ← hq1_]; (repeat (first | exact uE | assumption | refine uN (by omega) ?_ | fail)); done), by omega⟩
              · omega
              · (repeat' (first | exact trivial | refine ⟨⟨_, rfl, ?_⟩, ?_⟩ | fail)); all_goals (repeat' (first | exact VLe.refl _ | exact VLe.own_sl _ _ _ | exact VLe.fl_sl _ _ | exact VLe.nil_sl _ | exact VLe.nil_fl _ | exact VLes.refl _ | exact .nil | refine VLe.tup ?_ | refine VLe.agg ?_ | refine .cons ?_ ?_ | (rw [Int.natCast_add]; exact VLe.refl _) | exact vle_int (by omega) | exact vle_bool (by first | rfl | assumption | (simp_all; done) | fail) | (rw [← hq0_]; exact VLe.refl _) | (rw [hq0_]; exact VLe.refl _) | (rw [← hq1_]; exact VLe.refl _) | (rw [hq1_]; exact VLe.refl _) | fail))
            · skip
              have hnl_ : ¬ ltI x (at' l (i : Int)) := (by unfold ltI; omega)
              refine dl0 (gy rfl rfl rfl rfl rfl rfl) rfl rfl (step_pick rfl (ev_mk rfl) (ev_mk rfl)) trivial ?_
              refine dl0 (gy rfl rfl rfl rfl rfl rfl) rfl rfl (step_pick rfl (ev_mk rfl) (ev_mk rfl)) trivial ?_
              refine dl0 (gn rfl) rfl rfl (step_pick rfl (ev_mk rfl) (ev_mk rfl)) trivial ?_
              refine dlnil ?_ ?_
              · repeat' (first | exact trivial | exact .inr (ap0 _ _ _ _) | exact .inr (ap2 _ _ _ _) | exact .inr (ap3 _ _ _ _) | exact .inr ⟨by first | (simp; done) | (simp; omega), by first | (simp; done) | (simp; omega)⟩ | exact .inl (by kernel_rfl) | refine ⟨?_, ?_⟩ | fail)
              refine runs_cond false (ev_mk rfl) (fun h_ => nomatch h_) (fun _ => ?_)
              refine runs_skip ?_
              refine runs_region ?_
              refine rl0 (gn rfl) rfl rfl (step_mv rfl rfl) trivial ?_
              refine rl0 (gn rfl) rfl rfl (step_mv rfl rfl) trivial ?_
              refine rl0 (gn rfl) rfl rfl (step_mv rfl rfl) trivial ?_
              refine' rl0 (gn rfl) rfl rfl (step_index rfl (ev_mk rfl) (.inl rfl) (ev_mk rfl) Try.underlying27 F.sz33 (by omega) ?hr) trivial ?_
              case hr => exact map_at _ _ _ (by omega) (by omega)
              refine rl0 (gn rfl) rfl rfl (step_load_ro_all rfl rfl F.agg33 (by first | rfl | (simp; done) | (first | (simp; done) | (simp; omega) | omega))) trivial ?_
              refine rl0 (gn rfl) rfl rfl (step_lit rfl Try.underlying27 F.sz33 F.zero33 (by first | rfl | simp) (by first | rfl | simp | decide) (by decide) rfl rfl (by first | (simp [V.cs, V.stor, oneV]; done) | (simp [V.cs, V.stor, oneV])) rfl) trivial ?_
              refine' rl1 (gn rfl) rfl rfl (step_append_own rfl rfl rfl Try.underlying27 ⟨_, Try.underlying27, fun k_ => by intro h_; cases h_⟩ F.el33 (ev_mk rfl) (ev_mk rfl) (gives_sl (.inr (.inl rfl))) ?hg) ⟨?hb, trivial⟩ (by omega) ?_
              case hb => repeat (first | exact uE | refine uN (by omega) ?_ | assumption | exact hd _ (by omega) | exact hd0 _ (by omega) | fail)
              case hg => first | (simp; omega) | (simp; done) | omega
              refine rl0 (gn rfl) rfl rfl (step_as rfl rfl) trivial ?_
              refine runsL_nil ?_
              refine runs_region ?_
              refine rl0 (gn rfl) rfl rfl (step_mv rfl rfl) trivial ?_
              refine rl0 (gn rfl) rfl rfl (step_add rfl (ev_mk rfl) (ev_mk rfl) (w64 (by omega))) trivial ?_
              refine rl0 (gn rfl) rfl rfl (step_as rfl rfl) trivial ?_
              refine runsL_nil ?_
              have hq0_ : (((insO l x i).map itR) ++ [[V.sc (.int .i64 (at' l (i : Int)).k), V.sc (.int .i64 (((at' l (i : Int)).n : Nat) : Int))]]) = ((insO l x (i + 1)).map itR) := by (rw [insO_3 (by omega) hp_ hnl_]; simp)
              have hq1_ : insP l x i = insP l x (i + 1) := by (rw [insP_s (by omega), hp_, decide_eq_false hnl_]; rfl)
              refine ⟨_, _, ?_, sle ?_ (Nat.le_refl _), (i + 1), _, _, rfl, rfl, by omega, (fun k_ hk_ => by repeat (first | exact hf0 k_ hk_ | refine uN (by first | assumption | omega) ?_ | fail)), by first | ((repeat (first | exact uE | assumption | refine uN (by omega) ?_ | fail)); done) | exact tl_eq (by repeat (first | exact uE | assumption | refine uN (by omega) ?_ | fail)) (by first | rfl | (simp [bytesV, beB_len]; done) | (simp [bytesV, beB_len]; omega) | omega) | (rw [← hq0_]; (repeat (first | exact uE | assumption | refine uN (by omega) ?_ | fail)); done) | (rw [← hq1_]; (repeat (first | exact uE | assumption | refine uN (by omega) ?_ | fail)); done) | (rw [← hq0_, ← hq1_]; (repeat (first | exact uE | assumption | refine uN (by omega) ?_ | fail)); done), by first | ((repeat (first | exact uE | assumption | refine uN (by omega) ?_ | fail)); done) | exact tl_eq (by repeat (first | exact uE | assumption | refine uN (by omega) ?_ | fail)) (by first | rfl | (simp [bytesV, beB_len]; done) | (simp [bytesV, beB_len]; omega) | omega) | (rw [← hq0_]; (repeat (first | exact uE | assumption | refine uN (by omega) ?_ | fail)); done) | (rw [← hq1_]; (repeat (first | exact uE | assumption | refine uN (by omega) ?_ | fail)); done) | (rw [← hq0_, ← hq1_]; (repeat (first | exact uE | assumption | refine uN (by omega) ?_ | fail)); done), by omega⟩
              · omega
              · (repeat' (first | exact trivial | refine ⟨⟨_, rfl, ?_⟩, ?_⟩ | fail)); all_goals (repeat' (first | exact VLe.refl _ | exact VLe.own_sl _ _ _ | exact VLe.fl_sl _ _ | exact VLe.nil_sl _ | exact VLe.nil_fl _ | exact VLes.refl _ | exact .nil | refine VLe.tup ?_ | refine VLe.agg ?_ | refine .cons ?_ ?_ | (rw [Int.natCast_add]; exact VLe.refl _) | exact vle_int (by omega) | exact vle_bool (by first | rfl | assumption | (simp_all; done) | fail) | (rw [← hq0_]; exact VLe.refl _) | (rw [hq0_]; exact VLe.refl _) | (rw [← hq1_]; exact VLe.refl _) | (rw [hq1_]; exact VLe.refl _) | fail))
          · skip
            have hnl_ : ¬ ltI x (at' l (i : Int)) := (by unfold ltI; omega)
            refine dl0 (gy rfl rfl rfl rfl rfl rfl) rfl rfl (step_mv rfl rfl) trivial ?_
            refine dlk rfl rfl rfl rfl rfl (ngb rfl rfl) rfl rfl ?_
            refine dlk rfl rfl rfl rfl rfl (ngb rfl rfl) rfl rfl ?_
            refine dlk rfl rfl rfl rfl rfl (ngb rfl rfl) rfl rfl ?_
            refine dlk rfl rfl rfl rfl rfl (ngb rfl rfl) rfl rfl ?_
            refine dlk rfl rfl rfl rfl rfl (ngb rfl rfl) rfl rfl ?_
            refine dlk rfl rfl rfl rfl rfl (ngb rfl rfl) rfl rfl ?_
            refine dlk rfl rfl rfl rfl rfl (ngb rfl rfl) rfl rfl ?_
            refine dlk rfl rfl rfl rfl rfl (ngb rfl rfl) rfl rfl ?_
            refine dl0 (gy rfl rfl rfl rfl rfl rfl) rfl rfl (step_pick rfl (ev_mk rfl) (ev_mk rfl)) trivial ?_
            refine dl0 (gy rfl rfl rfl rfl rfl rfl) rfl rfl (step_pick rfl (ev_mk rfl) (ev_mk rfl)) trivial ?_
            refine dl0 (gn rfl) rfl rfl (step_pick rfl (ev_mk rfl) (ev_mk rfl)) trivial ?_
            refine dlnil ?_ ?_
            · repeat' (first | exact trivial | exact .inr (ap0 _ _ _ _) | exact .inr (ap2 _ _ _ _) | exact .inr (ap3 _ _ _ _) | exact .inr ⟨by first | (simp; done) | (simp; omega), by first | (simp; done) | (simp; omega)⟩ | exact .inl (by kernel_rfl) | refine ⟨?_, ?_⟩ | fail)
            refine runs_cond false (ev_mk rfl) (fun h_ => nomatch h_) (fun _ => ?_)
            refine runs_skip ?_
            refine runs_region ?_
            refine rl0 (gn rfl) rfl rfl (step_mv rfl rfl) trivial ?_
            refine rl0 (gn rfl) rfl rfl (step_mv rfl rfl) trivial ?_
            refine rl0 (gn rfl) rfl rfl (step_mv rfl rfl) trivial ?_
            refine' rl0 (gn rfl) rfl rfl (step_index rfl (ev_mk rfl) (.inl rfl) (ev_mk rfl) Try.underlying27 F.sz33 (by omega) ?hr) trivial ?_
            case hr => exact map_at _ _ _ (by omega) (by omega)
            refine rl0 (gn rfl) rfl rfl (step_load_ro_all rfl rfl F.agg33 (by first | rfl | (simp; done) | (first | (simp; done) | (simp; omega) | omega))) trivial ?_
            refine rl0 (gn rfl) rfl rfl (step_lit rfl Try.underlying27 F.sz33 F.zero33 (by first | rfl | simp) (by first | rfl | simp | decide) (by decide) rfl rfl (by first | (simp [V.cs, V.stor, oneV]; done) | (simp [V.cs, V.stor, oneV])) rfl) trivial ?_
            refine' rl1 (gn rfl) rfl rfl (step_append_own rfl rfl rfl Try.underlying27 ⟨_, Try.underlying27, fun k_ => by intro h_; cases h_⟩ F.el33 (ev_mk rfl) (ev_mk rfl) (gives_sl (.inr (.inl rfl))) ?hg) ⟨?hb, trivial⟩ (by omega) ?_
            case hb => repeat (first | exact uE | refine uN (by omega) ?_ | assumption | exact hd _ (by omega) | exact hd0 _ (by omega) | fail)
            case hg => first | (simp; omega) | (simp; done) | omega
            refine rl0 (gn rfl) rfl rfl (step_as rfl rfl) trivial ?_
            refine runsL_nil ?_
            refine runs_region ?_
            refine rl0 (gn rfl) rfl rfl (step_mv rfl rfl) trivial ?_
            refine rl0 (gn rfl) rfl rfl (step_add rfl (ev_mk rfl) (ev_mk rfl) (w64 (by omega))) trivial ?_
            refine rl0 (gn rfl) rfl rfl (step_as rfl rfl) trivial ?_
            refine runsL_nil ?_
            have hq0_ : (((insO l x i).map itR) ++ [[V.sc (.int .i64 (at' l (i : Int)).k), V.sc (.int .i64 (((at' l (i : Int)).n : Nat) : Int))]]) = ((insO l x (i + 1)).map itR) := by (rw [insO_3 (by omega) hp_ hnl_]; simp)
            have hq1_ : insP l x i = insP l x (i + 1) := by (rw [insP_s (by omega), hp_, decide_eq_false hnl_]; rfl)
            refine ⟨_, _, ?_, sle ?_ (Nat.le_refl _), (i + 1), _, _, rfl, rfl, by omega, (fun k_ hk_ => by repeat (first | exact hf0 k_ hk_ | refine uN (by first | assumption | omega) ?_ | fail)), by first | ((repeat (first | exact uE | assumption | refine uN (by omega) ?_ | fail)); done) | exact tl_eq (by repeat (first | exact uE | assumption | refine uN (by omega) ?_ | fail)) (by first | rfl | (simp [bytesV, beB_len]; done) | (simp [bytesV, beB_len]; omega) | omega) | (rw [← hq0_]; (repeat (first | exact uE | assumption | refine uN (by omega) ?_ | fail)); done) | (rw [← hq1_]; (repeat (first | exact uE | assumption | refine uN (by omega) ?_ | fail)); done) | (rw [← hq0_, ← hq1_]; (repeat (first | exact uE | assumption | refine uN (by omega) ?_ | fail)); done), by first | ((repeat (first | exact uE | assumption | refine uN (by omega) ?_ | fail)); done) | exact tl_eq (by repeat (first | exact uE | assumption | refine uN (by omega) ?_ | fail)) (by first | rfl | (simp [bytesV, beB_len]; done) | (simp [bytesV, beB_len]; omega) | omega) | (rw [← hq0_]; (repeat (first | exact uE | assumption | refine uN (by omega) ?_ | fail)); done) | (rw [← hq1_]; (repeat (first | exact uE | assumption | refine uN (by omega) ?_ | fail)); done) | (rw [← hq0_, ← hq1_]; (repeat (first | exact uE | assumption | refine uN (by omega) ?_ | fail)); done), by omega⟩
            · omega
            · (repeat' (first | exact trivial | refine ⟨⟨_, rfl, ?_⟩, ?_⟩ | fail)); all_goals (repeat' (first | exact VLe.refl _ | exact VLe.own_sl _ _ _ | exact VLe.fl_sl _ _ | exact VLe.nil_sl _ | exact VLe.nil_fl _ | exact VLes.refl _ | exact .nil | refine VLe.tup ?_ | refine VLe.agg ?_ | refine .cons ?_ ?_ | (rw [Int.natCast_add]; exact VLe.refl _) | exact vle_int (by omega) | exact vle_bool (by first | rfl | assumption | (simp_all; done) | fail) | (rw [← hq0_]; exact VLe.refl _) | (rw [hq0_]; exact VLe.refl _) | (rw [← hq1_]; exact VLe.refl _) | (rw [hq1_]; exact VLe.refl _) | fail))
      · skip
        have hp_ : insP l x i = true := (by simpa using h2)
        refine dlk rfl rfl rfl rfl rfl (ngb rfl rfl) rfl rfl ?_
        refine dlk rfl rfl rfl rfl rfl (ngb rfl rfl) rfl rfl ?_
        refine dlk rfl rfl rfl rfl rfl (ngb rfl rfl) rfl rfl ?_
        refine dlk rfl rfl rfl rfl rfl (ngb rfl rfl) rfl rfl ?_
        refine dlk rfl rfl rfl rfl rfl (ngb rfl rfl) rfl rfl ?_
        refine dlk rfl rfl rfl rfl rfl (ngb rfl rfl) rfl rfl ?_
        refine dlk rfl rfl rfl rfl rfl (ngb rfl rfl) rfl rfl ?_
        refine dlk rfl rfl rfl rfl rfl (ngb rfl rfl) rfl rfl ?_
        refine dlk rfl rfl rfl rfl rfl (ngb rfl rfl) rfl rfl ?_
        refine dlk rfl rfl rfl rfl rfl (ngu rfl) rfl rfl ?_
        refine dlk rfl rfl rfl rfl rfl (ngu rfl) rfl rfl ?_
        refine dlk rfl rfl rfl rfl rfl (ngu rfl) rfl rfl ?_
        refine dlk rfl rfl rfl rfl rfl (ngu rfl) rfl rfl ?_
        refine dlk rfl rfl rfl rfl rfl (ngu rfl) rfl rfl ?_
        refine dlk rfl rfl rfl rfl rfl (ngu rfl) rfl rfl ?_
        refine dlk rfl rfl rfl rfl rfl (ngu rfl) rfl rfl ?_
        refine dlk rfl rfl rfl rfl rfl (ngu rfl) rfl rfl ?_
        refine dlk rfl rfl rfl rfl rfl (ngu rfl) rfl rfl ?_
        refine dlk rfl rfl rfl rfl rfl (ngu rfl) rfl rfl ?_
        refine dlk rfl rfl rfl rfl rfl (ngu rfl) rfl rfl ?_
        refine dlk rfl rfl rfl rfl rfl (ngu rfl) rfl rfl ?_
        refine dlk rfl rfl rfl rfl rfl (ngu rfl) rfl rfl ?_
        refine dlk rfl rfl rfl rfl rfl (ngu rfl) rfl rfl ?_
        refine dlk rfl rfl rfl rfl rfl (ngu rfl) rfl rfl ?_
        refine dlk rfl rfl rfl rfl rfl (ngu rfl) rfl rfl ?_
        refine dlk rfl rfl rfl rfl rfl (ngu rfl) rfl rfl ?_
        refine dlk rfl rfl rfl rfl rfl (ngu rfl) rfl rfl ?_
        refine dlk rfl rfl rfl rfl rfl (ngb rfl rfl) rfl rfl ?_
        refine dl0 (gn rfl) rfl rfl (step_pick rfl (ev_mk rfl) (ev_mk rfl)) trivial ?_
        refine dlnil ?_ ?_
        · repeat' (first | exact trivial | exact .inr (ap0 _ _ _ _) | exact .inr (ap2 _ _ _ _) | exact .inr (ap3 _ _ _ _) | exact .inr ⟨by first | (simp; done) | (simp; omega), by first | (simp; done) | (simp; omega)⟩ | exact .inl (by kernel_rfl) | refine ⟨?_, ?_⟩ | fail)
        refine runs_cond false (ev_mk rfl) (fun h_ => nomatch h_) (fun _ => ?_)
        refine runs_skip ?_
        refine runs_region ?_
        refine rl0 (gn rfl) rfl rfl (step_mv rfl rfl) trivial ?_
        refine rl0 (gn rfl) rfl rfl (step_mv rfl rfl) trivial ?_
        refine rl0 (gn rfl) rfl rfl (step_mv rfl rfl) trivial ?_
        refine' rl0 (gn rfl) rfl rfl (step_index rfl (ev_mk rfl) (.inl rfl) (ev_mk rfl) Try.underlying27 F.sz33 (by omega) ?hr) trivial ?_
        case hr => exact map_at _ _ _ (by omega) (by omega)
        refine rl0 (gn rfl) rfl rfl (step_load_ro_all rfl rfl F.agg33 (by first | rfl | (simp; done) | (first | (simp; done) | (simp; omega) | omega))) trivial ?_
        refine rl0 (gn rfl) rfl rfl (step_lit rfl Try.underlying27 F.sz33 F.zero33 (by first | rfl | simp) (by first | rfl | simp | decide) (by decide) rfl rfl (by first | (simp [V.cs, V.stor, oneV]; done) | (simp [V.cs, V.stor, oneV])) rfl) trivial ?_
        refine' rl1 (gn rfl) rfl rfl (step_append_own rfl rfl rfl Try.underlying27 ⟨_, Try.underlying27, fun k_ => by intro h_; cases h_⟩ F.el33 (ev_mk rfl) (ev_mk rfl) (gives_sl (.inr (.inl rfl))) ?hg) ⟨?hb, trivial⟩ (by omega) ?_
        case hb => repeat (first | exact uE | refine uN (by omega) ?_ | assumption | exact hd _ (by omega) | exact hd0 _ (by omega) | fail)
        case hg => first | (simp; omega) | (simp; done) | omega
        refine rl0 (gn rfl) rfl rfl (step_as rfl rfl) trivial ?_
        refine runsL_nil ?_
        refine runs_region ?_
        refine rl0 (gn rfl) rfl rfl (step_mv rfl rfl) trivial ?_
        refine rl0 (gn rfl) rfl rfl (step_add rfl (ev_mk rfl) (ev_mk rfl) (w64 (by omega))) trivial ?_
        refine rl0 (gn rfl) rfl rfl (step_as rfl rfl) trivial ?_
        refine runsL_nil ?_
        have hq0_ : (((insO l x i).map itR) ++ [[V.sc (.int .i64 (at' l (i : Int)).k), V.sc (.int .i64 (((at' l (i : Int)).n : Nat) : Int))]]) = ((insO l x (i + 1)).map itR) := by (rw [insO_1 (by omega) hp_]; simp)
        have hq1_ : insP l x i = insP l x (i + 1) := by (rw [insP_s (by omega), hp_]; rfl)
        refine ⟨_, _, ?_, sle ?_ (Nat.le_refl _), (i + 1), _, _, rfl, rfl, by omega, (fun k_ hk_ => by repeat (first | exact hf0 k_ hk_ | refine uN (by first | assumption | omega) ?_ | fail)), by first | ((repeat (first | exact uE | assumption | refine uN (by omega) ?_ | fail)); done) | exact tl_eq (by repeat (first | exact uE | assumption | refine uN (by omega) ?_ | fail)) (by first | rfl | (simp [bytesV, beB_len]; done) | (simp [bytesV, beB_len]; omega) | omega) | (rw [← hq0_]; (repeat (first | exact uE | assumption | refine uN (by omega) ?_ | fail)); done) | (rw [← hq1_]; (repeat (first | exact uE | assumption | refine uN (by omega) ?_ | fail)); done) | (rw [← hq0_, ← hq1_]; (repeat (first | exact uE | assumption | refine uN (by omega) ?_ | fail)); done), by first | ((repeat (first | exact uE | assumption | refine uN (by omega) ?_ | fail)); done) | exact tl_eq (by repeat (first | exact uE | assumption | refine uN (by omega) ?_ | fail)) (by first | rfl | (simp [bytesV, beB_len]; done) | (simp [bytesV, beB_len]; omega) | omega) | (rw [← hq0_]; (repeat (first | exact uE | assumption | refine uN (by omega) ?_ | fail)); done) | (rw [← hq1_]; (repeat (first | exact uE | assumption | refine uN (by omega) ?_ | fail)); done) | (rw [← hq0_, ← hq1_]; (repeat (first | exact uE | assumption | refine uN (by omega) ?_ | fail)); done), by omega⟩
        · omega
        · (repeat' (first | exact trivial | refine ⟨⟨_, rfl, ?_⟩, ?_⟩ | fail)); all_goals (repeat' (first | exact VLe.refl _ | exact VLe.own_sl _ _ _ | exact VLe.fl_sl _ _ | exact VLe.nil_sl _ | exact VLe.nil_fl _ | exact VLes.refl _ | exact .nil | refine VLe.tup ?_ | refine VLe.agg ?_ | refine .cons ?_ ?_ | (rw [Int.natCast_add]; exact VLe.refl _) | exact vle_int (by omega) | exact vle_bool (by first | rfl | assumption | (simp_all; done) | fail) | (rw [← hq0_]; exact VLe.refl _) | (rw [hq0_]; exact VLe.refl _) | (rw [← hq1_]; exact VLe.refl _) | (rw [hq1_]; exact VLe.refl _) | fail))
    · skip
      refine runsL_nil ?_
      refine runs_cond false (ev_mk rfl) (fun h_ => nomatch h_) (fun _ => ?_)
      refine runs_exit ?_
      refine runs_seq ?_
      refine runs_seq ?_
      refine runs_region ?_
      refine rl0 (gn rfl) rfl rfl (step_mv rfl rfl) trivial ?_
      refine rl0 (gn rfl) rfl rfl (step_unOp rfl (ev_mk rfl) (fun _ => rfl)) trivial ?_
      refine runsL_nil ?_
      refine runs_cond _ (ev_mk rfl) (fun h2 => ?_) (fun h2 => ?_)
      · skip
        have hp_ : insP l x i = false := (by simpa using h2)
        have hrs_ := insO_e2 (x := x) (show l.length ≤ i by omega) hp_
        refine runs_region ?_
        refine rl0 (gn rfl) rfl rfl (step_mv rfl rfl) trivial ?_
        refine' rl0 (gn rfl) rfl rfl (step_load_all rfl rfl F.agg33 ?hl) ⟨?hb, trivial⟩ ?_
        case hb => repeat (first | exact uE | refine uN (by omega) ?_ | assumption | exact hd _ (by omega) | exact hd0 _ (by omega) | fail)
        case hl => first | rfl | (simp; done) | (first | (simp; done) | (simp; omega) | omega)
        refine rl0 (gn rfl) rfl rfl (step_lit rfl Try.underlying27 F.sz33 F.zero33 (by first | rfl | simp) (by first | rfl | simp | decide) (by decide) rfl rfl (by first | (simp [V.cs, V.stor, oneV]; done) | (simp [V.cs, V.stor, oneV])) rfl) trivial ?_
        refine' rl1 (gn rfl) rfl rfl (step_append_own rfl rfl rfl Try.underlying27 ⟨_, Try.underlying27, fun k_ => by intro h_; cases h_⟩ F.el33 (ev_mk rfl) (ev_mk rfl) (gives_sl (.inr (.inl rfl))) ?hg) ⟨?hb, trivial⟩ (by omega) ?_
        case hb => repeat (first | exact uE | refine uN (by omega) ?_ | assumption | exact hd _ (by omega) | exact hd0 _ (by omega) | fail)
        case hg => first | (simp; omega) | (simp; done) | omega
        refine rl0 (gn rfl) rfl rfl (step_as rfl rfl) trivial ?_
        refine runsL_nil ?_
        refine runs_seq ?_
        refine runs_region ?_
        refine rl0 (gn rfl) rfl rfl (step_mv rfl rfl) trivial ?_
        refine rl0 (gn rfl) rfl rfl (step_as rfl rfl) trivial ?_
        refine runsL_nil ?_
        refine runs_ret ?_
        rw [← hrs_]
        refine ⟨by first | exact .inr rfl | exact .inl rfl, fin_mkg (rest rfl res0) ?_ ?_ ?_ ?_ ?_⟩
        · (repeat' (first | exact VLe.refl _ | exact VLe.own_sl _ _ _ | exact VLe.fl_sl _ _ | exact VLe.nil_sl _ | exact VLe.nil_fl _ | exact VLes.refl _ | exact .nil | refine VLe.tup ?_ | refine VLe.agg ?_ | refine .cons ?_ ?_ | (rw [Int.natCast_add]; exact VLe.refl _) | exact vle_int (by omega) | exact vle_bool (by first | rfl | assumption | (simp_all; done) | fail) | ((rw [List.map_append]; exact VLe.own_sl _ _ _)) | fail))
        · repeat (first | exact trivial | assumption | omega | (refine bdR_map (fun _ => ?_)) | (refine bdL_map (fun _ => ?_)) | refine ⟨?_, ?_⟩ | fail)
        · intro k_ hk_; exact ble (by repeat (first | exact rfl | refine uN (by omega) ?_ | assumption | exact hf0 _ (by omega) | fail))
        · intro p hp; cases hp
        · repeat (first | exact trivial | assumption | omega | (refine bdR_map (fun _ => ?_)) | (refine bdL_map (fun _ => ?_)) | refine ⟨?_, ?_⟩ | fail)
      · skip
        have hp_ : insP l x i = true := (by simpa using h2)
        have hrs_ := insO_e1 (x := x) (show l.length ≤ i by omega) hp_
        refine runs_skip ?_
        refine runs_seq ?_
        refine runs_region ?_
        refine rl0 (gn rfl) rfl rfl (step_mv rfl rfl) trivial ?_
        refine rl0 (gn rfl) rfl rfl (step_as rfl rfl) trivial ?_
        refine runsL_nil ?_
        refine runs_ret ?_
        rw [← hrs_]
        refine ⟨by first | exact .inr rfl | exact .inl rfl, fin_mkg (rest rfl res0) ?_ ?_ ?_ ?_ ?_⟩
        · (repeat' (first | exact VLe.refl _ | exact VLe.own_sl _ _ _ | exact VLe.fl_sl _ _ | exact VLe.nil_sl _ | exact VLe.nil_fl _ | exact VLes.refl _ | exact .nil | refine VLe.tup ?_ | refine VLe.agg ?_ | refine .cons ?_ ?_ | (rw [Int.natCast_add]; exact VLe.refl _) | exact vle_int (by omega) | exact vle_bool (by first | rfl | assumption | (simp_all; done) | fail) | ((rw [List.map_append]; exact VLe.own_sl _ _ _)) | fail))
        · repeat (first | exact trivial | assumption | omega | (refine bdR_map (fun _ => ?_)) | (refine bdL_map (fun _ => ?_)) | refine ⟨?_, ?_⟩ | fail)
        · intro k_ hk_; exact ble (by repeat (first | exact rfl | refine uN (by omega) ?_ | assumption | exact hf0 _ (by omega) | fail))
        · intro p hp; cases hp
        · repeat (first | exact trivial | assumption | omega | (refine bdR_map (fun _ => ?_)) | (refine bdL_map (fun _ => ?_)) | refine ⟨?_, ?_⟩ | fail)
set_option maxRecDepth 100000 in
set_option maxHeartbeats 4000000 in
theorem top_c (kf : Nat → Int) (h : Nat → Nat) (n0 hb gb v L M c : Nat) (hLM : L ≤ M) (hc : ∀ j, j < M → h j < c) : Does Try.prog 15 [.ref hb 0] ([(hb, .cells [.gsl gb v 0 L 1, .sc (.func (.func 8) #[] #[]), .sc (.int .i64 (c : Int))]), (gb, .gcells v 1 (rowsH n0 h M))] ++ famL n0 c (itC kf h L)) [] (.tup [.sc (.int .i64 (topK kf h L)), .sc (.bool (decide (0 < L)))]) := by
  refine does_mkg 40 Try.func15 rfl rfl rfl (fun n B bx hd hpre hup hvs hbx hgx => ?_)
  have hp0 := hpre.1
  have hk0 := lt_cells hd hp0
  have hp1 := hpre.2.1
  have hk1 := lt_gcells hd hp1
  have hfam0 := fam_of hpre.2.2
  have hfn0 := fam_lt hd hfam0
  have hrl_ := rowsH_len n0 h M
  refine runs_seq ?_
  refine runs_region ?_
  refine rl0 (gn rfl) rfl rfl (step_as rfl rfl) trivial ?_
  refine rl0 (gn rfl) rfl rfl (step_as rfl rfl) trivial ?_
  refine runsL_nil ?_
  refine runs_seq ?_
  refine runs_seq ?_
  refine runs_region ?_
  refine rl0 (gn rfl) rfl rfl (step_mv rfl rfl) trivial ?_
  refine rl0 (gn rfl) rfl rfl (step_nilCheck rfl (ev_mk rfl) (.inl ⟨_, _, rfl⟩)) trivial ?_
  refine rl0 (gn rfl) rfl rfl (step_fieldAddr (off := 0) rfl (ev_mk rfl) Try.underlying57 rfl F.sz28 rfl) trivial ?_
  refine' rl0 (gn rfl) rfl rfl (step_load_one rfl (ev_mk rfl) F.one28 ?hv) ⟨?hb, trivial⟩ ?_
  case hb => repeat (first | exact uE | refine uN (by omega) ?_ | assumption | exact hd _ (by omega) | fail)
  case hv => rfl
  refine rl0 (gn rfl) rfl rfl (step_len_g rfl rfl (ev_mk rfl) Try.underlying28) trivial ?_
  refine rl_eql (gn rfl) rfl rfl rfl rfl rfl (fun h1 => ?_) (fun h1 => ?_)
  · skip
    have hem_ : false = decide (0 < L) := (decide_eq_false (by omega)).symm
    have htk_ : topK kf h L = 0 := if_pos (by omega)
    refine runsL_nil ?_
    refine runs_cond true (ev_mk rfl) (fun _ => ?_) (fun h_ => nomatch h_)
    refine runs_seq ?_
    refine runs_region ?_
    refine rl0 (gn rfl) rfl rfl (step_as rfl rfl) trivial ?_
    refine runsL_nil ?_
    refine runs_seq ?_
    refine runs_region ?_
    refine rl0 (gn rfl) rfl rfl (step_mv rfl rfl) trivial ?_
    refine rl0 (gn rfl) rfl rfl (step_as rfl rfl) trivial ?_
    refine rl0 (gn rfl) rfl rfl (step_as rfl rfl) trivial ?_
    refine runsL_nil ?_
    refine runs_ret ?_
    rw [htk_, ← hem_]
    refine ⟨by first | exact .inr rfl | exact .inl rfl, fin_mkg (rest rfl (rest rfl res0)) ?_ ?_ ?_ ?_ ?_⟩
    · (repeat' (first | exact VLe.refl _ | exact VLe.own_sl _ _ _ | exact VLe.fl_sl _ _ | exact VLe.nil_sl _ | exact VLe.nil_fl _ | exact VLes.refl _ | exact .nil | refine VLe.tup ?_ | refine VLe.agg ?_ | refine .cons ?_ ?_ | (rw [Int.natCast_add]; exact VLe.refl _) | exact vle_int (by omega) | exact vle_bool (by first | rfl | assumption | (simp_all; done) | fail) | fail))
    · repeat (first | exact trivial | assumption | omega | (refine bdR_map (fun _ => ?_)) | (refine bdL_map (fun _ => ?_)) | refine ⟨?_, ?_⟩ | fail)
    · intro k_ hk_; exact ble (by repeat (first | exact rfl | refine uN (by omega) ?_ | assumption | fail))
    · intro p hp; cases hp
    · repeat (first | exact trivial | assumption | omega | (refine bdR_map (fun _ => ?_)) | (refine bdL_map (fun _ => ?_)) | refine ⟨?_, ?_⟩ | fail)
  · skip
    have hem_ : true = decide (0 < L) := (decide_eq_true (by omega)).symm
    have htk_ : topK kf h L = (kf (h 0)) := if_neg (by omega)
    have hx0_ : bx (n0 + h 0) = .cells [.sc (.int .i64 (kf (h 0))), .sc (.int .i64 ((h 0 : Nat) : Int)), .sc (.int .i64 (posF h L (h 0)))] := hfam0 _ (hc 0 (by omega))
    refine runsL_nil ?_
    refine runs_cond false (ev_mk rfl) (fun h_ => nomatch h_) (fun _ => ?_)
    refine runs_skip ?_
    refine runs_seq ?_
    refine runs_region ?_
    refine rl0 (gn rfl) rfl rfl (step_mv rfl rfl) trivial ?_
    refine rl0 (gn rfl) rfl rfl (step_nilCheck rfl (ev_mk rfl) (.inl ⟨_, _, rfl⟩)) trivial ?_
    refine rl0 (gn rfl) rfl rfl (step_fieldAddr (off := 0) rfl (ev_mk rfl) Try.underlying57 rfl F.sz28 rfl) trivial ?_
    refine' rl0 (gn rfl) rfl rfl (step_load_one rfl (ev_mk rfl) F.one28 ?hv) ⟨?hb, trivial⟩ ?_
    case hb => repeat (first | exact uE | refine uN (by omega) ?_ | assumption | exact hd _ (by omega) | fail)
    case hv => rfl
    refine' rl0 (gn rfl) rfl rfl (step_index_g rfl (ev_mk rfl) (ev_mk rfl) Try.underlying28 F.sz34 (by omega) (by omega) ?hl) ⟨?hb, trivial⟩ ?_
    case hb => repeat (first | exact uE | refine uN (by omega) ?_ | assumption | exact hd _ (by omega) | fail)
    case hl => first | omega | (first | (simp; done) | (simp; omega) | omega)
    refine' rl0 (gn rfl) rfl rfl (step_load_g1 (i := 0) (c := 0) (r := [V.ref (n0 + h 0) 0]) rfl (ev_mk rfl) F.one34 ?hi ?hc ?hq) ⟨?hb, trivial⟩ ?_
    case hb => repeat (first | exact uE | refine uN (by omega) ?_ | assumption | exact hd _ (by omega) | fail)
    case hi => exact row_at (by omega)
    case hc => first | rfl | (first | (simp; done) | (simp; omega) | omega)
    case hq => first | rfl | omega
    refine rl0 (gn rfl) rfl rfl (step_nilCheck rfl (ev_mk rfl) (.inl ⟨_, _, rfl⟩)) trivial ?_
    refine rl0 (gn rfl) rfl rfl (step_fieldAddr (off := 0) rfl (ev_mk rfl) Try.underlying59 rfl F.sz3 rfl) trivial ?_
    refine' rl0 (gn rfl) rfl rfl (step_load_one rfl (ev_mk rfl) F.one3 ?hv) ⟨?hb, trivial⟩ ?_
    case hb => repeat (first | exact uE | refine uN (by omega) ?_ | assumption | exact hd _ (by omega) | fail)
    case hv => rfl
    refine rl0 (gn rfl) rfl rfl (step_as rfl rfl) trivial ?_
    refine rl0 (gn rfl) rfl rfl (step_as rfl rfl) trivial ?_
    refine runsL_nil ?_
    refine runs_ret ?_
    rw [htk_, ← hem_]
    refine ⟨by first | exact .inr rfl | exact .inl rfl, fin_mkg (rest rfl (rest rfl res0)) ?_ ?_ ?_ ?_ ?_⟩
    · (repeat' (first | exact VLe.refl _ | exact VLe.own_sl _ _ _ | exact VLe.fl_sl _ _ | exact VLe.nil_sl _ | exact VLe.nil_fl _ | exact VLes.refl _ | exact .nil | refine VLe.tup ?_ | refine VLe.agg ?_ | refine .cons ?_ ?_ | (rw [Int.natCast_add]; exact VLe.refl _) | exact vle_int (by omega) | exact vle_bool (by first | rfl | assumption | (simp_all; done) | fail) | fail))
    · repeat (first | exact trivial | assumption | omega | (refine bdR_map (fun _ => ?_)) | (refine bdL_map (fun _ => ?_)) | refine ⟨?_, ?_⟩ | fail)
    · intro k_ hk_; exact ble (by repeat (first | exact rfl | refine uN (by omega) ?_ | assumption | fail))
    · intro p hp; cases hp
    · repeat (first | exact trivial | assumption | omega | (refine bdR_map (fun _ => ?_)) | (refine bdL_map (fun _ => ?_)) | refine ⟨?_, ?_⟩ | fail)
theorem Does.same {P : Program} {f : FuncId} {vs : List V} {pre pre' up : List (Nat × Box)} {r : V} (h : Does P f vs pre [] r) (hs : ∀ p ∈ pre, p ∈ pre') (hu : ∀ p ∈ up, p ∈ pre') : Does P f vs pre' up r := fun n X args hR hv hp hn =>
  (h n X args hR hv (fun p q => hp p (hs p q)) (by simp)).mono fun e w' ⟨X', u, h1, h2, h3, h4⟩ => ⟨X', u, h1, h2, h3.trans (by
    show X.bx = upds X.bx up
    have key : ∀ (l : List (Nat × Box)) (b : Nat → Box), (∀ p ∈ l, b p.1 = p.2) → upds b l = b := by
      intro l
      induction l with
      | nil => intro b _; rfl
      | cons p l ih =>
        intro b hb
        have e : upd b p.1 p.2 = b := by
          funext i; unfold upd; split
          · rename_i q; rw [q]; exact (hb p (List.mem_cons_self ..)).symm
          · rfl
        show upds (upd b p.1 p.2) l = b
        rw [e]; exact ih b fun q hq => hb q (List.mem_cons_of_mem _ hq)
    exact (key up X.bx fun p q => hp p (hu p q)).symm), h4⟩
theorem fam_mem {n0 c a : Nat} {f : Nat → List V} (h : a < c) : (n0 + a, Box.cells (f a)) ∈ famL n0 c f := List.mem_map.2 ⟨a, List.mem_range.2 h, rfl⟩
/-- The heap and how many it has, without a thing. -/
def rmH (kf : Nat → Int) (h : Nat → Nat) (L a : Nat) : Nat → Nat := if 0 ≤ posF h L a then rmF kf h (L - 1) (posF h L a).toNat else h
def rmN (h : Nat → Nat) (L a : Nat) : Nat := if 0 ≤ posF h L a then L - 1 else L
def popH (kf : Nat → Int) (h : Nat → Nat) (L : Nat) : Nat → Nat := if L = 0 then h else rmF kf h (L - 1) 0
theorem remove_b (kf : Nat → Int) (h : Nat → Nat) (n0 hb gb v L M c a : Nat) (hLM : L ≤ M) (hLb : L < 999999) (hinj : InjH h L) (hc : ∀ i, i < M → h i < c) (hne : hb ≠ gb) (hhb : hb < n0) (hgb : gb < n0) (ha : a < c) : Does Try.prog 13 [.ref hb 0, .ref (n0 + a) 0] ([(hb, .cells [.gsl gb v 0 L 1, .sc (.func (.func 8) #[] #[]), .sc (.int .i64 (c : Int))]), (gb, .gcells v 1 (rowsH n0 h M))] ++ famL n0 c (itC kf h L)) ([(hb, .cells [.gsl gb v 0 (rmN h L a) 1, .sc (.func (.func 8) #[] #[]), .sc (.int .i64 (c : Int))]), (gb, .gcells v 1 (rowsH n0 (rmH kf h L a) M))] ++ famL n0 c (itC kf (rmH kf h L a) (rmN h L a))) (.sc (.bool (decide (0 ≤ posF h L a)))) := by
  by_cases q : 0 ≤ posF h L a
  · obtain ⟨j, hj, hjl, hja⟩ := pos_some (pos_iff.1 q)
    obtain ⟨L, rfl⟩ : ∃ z, L = z + 1 := ⟨L - 1, by omega⟩
    rw [decide_eq_true q, show rmN h (L + 1) a = L from if_pos q, show rmH kf h (L + 1) a = rmF kf h L j from (if_pos q).trans (by rw [hj]; rfl)]
    exact remove_a kf h n0 hb gb v L M c j a hja hjl hLM (by omega) hinj hc hne hhb hgb
  · have hq : posF h L a = -1 := by have := pos_lt h L a; omega
    rw [decide_eq_false q, show rmN h L a = L from if_neg q, show rmH kf h L a = h from if_neg q]
    refine Does.same (remove_n kf n0 hb gb v L c a) (fun p hp => ?_) (fun p hp => ?_)
    · rcases List.mem_cons.1 hp with rfl | hp
      · exact List.mem_append_left _ (List.mem_cons_self ..)
      · obtain rfl := List.mem_singleton.1 hp
        have := fam_mem (n0 := n0) (f := itC kf h L) ha
        rw [show itC kf h L a = [.sc (.int .i64 (kf a)), .sc (.int .i64 ((a : Nat) : Int)), .sc (.int .i64 (-1))] by unfold itC; rw [hq]] at this
        exact List.mem_append_right _ this
    · exact hp
theorem pop_c (kf : Nat → Int) (h : Nat → Nat) (n0 hb gb v L M c : Nat) (hLM : L ≤ M) (hLb : L < 999999) (hinj : InjH h L) (hc : ∀ i, i < M → h i < c) (hne : hb ≠ gb) (hhb : hb < n0) (hgb : gb < n0) : Does Try.prog 11 [.ref hb 0] ([(hb, .cells [.gsl gb v 0 L 1, .sc (.func (.func 8) #[] #[]), .sc (.int .i64 (c : Int))]), (gb, .gcells v 1 (rowsH n0 h M))] ++ famL n0 c (itC kf h L)) ([(hb, .cells [.gsl gb v 0 (L - 1) 1, .sc (.func (.func 8) #[] #[]), .sc (.int .i64 (c : Int))]), (gb, .gcells v 1 (rowsH n0 (popH kf h L) M))] ++ famL n0 c (itC kf (popH kf h L) (L - 1))) (.tup [.sc (.int .i64 (topK kf h L)), .sc (.bool (decide (0 < L)))]) := by
  rcases Nat.eq_zero_or_pos L with q | q
  · subst q
    rw [show topK kf h 0 = 0 from if_pos rfl, show popH kf h 0 = h from if_pos rfl]
    refine Does.same (pop_n hb gb v c) (fun p hp => ?_) (fun p hp => hp)
    obtain rfl := List.mem_singleton.1 hp
    exact List.mem_append_left _ (List.mem_cons_self ..)
  · obtain ⟨L, rfl⟩ : ∃ z, L = z + 1 := ⟨L - 1, by omega⟩
    rw [show topK kf h (L + 1) = kf (h 0) from if_neg (by omega), show popH kf h (L + 1) = rmF kf h L 0 from if_neg (by omega), decide_eq_true q]
    exact pop_y kf h n0 hb gb v L M c hLM (by omega) hinj hc hne hhb hgb
end Go.Proofs.Ytggeejghchnpaaa
