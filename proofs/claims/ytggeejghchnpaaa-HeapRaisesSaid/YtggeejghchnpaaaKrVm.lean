/- Walks by the logic of values. -/
import Derived.Test.YtggeejghchnpaaaKrVmT
import Derived.Test.YtggeejghchnpaaaKrVmP
import Derived.Test.YtggeejghchnpaaaKrVmV
import Derived.Test.YtggeejghchnpaaaKrVmY
import Derived.Test.YtggeejghchnpaaaKrVa
import Derived.Test.YtggeejghchnpaaaKrVb
import Derived.Test.YtggeejghchnpaaaKrVc
import Derived.Test.YtggeejghchnpaaaKrVd
import Derived.Test.YtggeejghchnpaaaKrVe
import Derived.Test.YtggeejghchnpaaaKrVf
import Derived.Test.YtggeejghchnpaaaKrVg
import Derived.Test.YtggeejghchnpaaaKrVh
import Derived.Test.YtggeejghchnpaaaKrVi
import Derived.Test.YtggeejghchnpaaaKrVj
import Derived.Test.YtggeejghchnpaaaKrVk
namespace Go.Proofs.Ytggeejghchnpaaa
open Go.Vm
set_option linter.unusedVariables false
set_option linter.unusedSimpArgs false
abbrev iR (x : Int) : List V := [.sc (.int .i64 x)]
abbrev kL (l : List Int) (a : Nat) : Int := at' l (a : Int)
def loF (l : List Int) : Nat → Int
  | 0 => at' l 0
  | i + 1 => if at' l (i : Int) < loF l i then at' l (i : Int) else loF l i
def hiF (l : List Int) : Nat → Int
  | 0 => at' l 0
  | i + 1 => if at' l (i : Int) > hiF l i then at' l (i : Int) else hiF l i
theorem loF_le (l : List Int) : ∀ (i j : Nat), j < i → loF l i ≤ kL l j
  | i + 1, j, h => by
    have ih := loF_le l i j
    show (if _ then _ else _) ≤ _
    by_cases e : j = i
    · subst e; unfold kL; split <;> omega
    · have := ih (by omega); unfold kL at *; split <;> omega
theorem hiF_le (l : List Int) : ∀ (i j : Nat), j < i → kL l j ≤ hiF l i
  | i + 1, j, h => by
    have ih := hiF_le l i j
    show _ ≤ (if _ then _ else _)
    by_cases e : j = i
    · subst e; unfold kL; split <;> omega
    · have := ih (by omega); unfold kL at *; split <;> omega
theorem loF_ge {l : List Int} : ∀ {i : Nat}, (∀ j, j < i → -1000 ≤ kL l j ∧ kL l j ≤ 1000) → 0 < i → -1000 ≤ loF l i ∧ loF l i ≤ 1000 ∧ -1000 ≤ hiF l i ∧ hiF l i ≤ 1000
  | 1, h, _ => by
    have := h 0 (by omega)
    show _ ≤ (if at' l ((0 : Nat) : Int) < at' l 0 then at' l ((0 : Nat) : Int) else at' l 0) ∧ (if at' l ((0 : Nat) : Int) < at' l 0 then at' l ((0 : Nat) : Int) else at' l 0) ≤ _ ∧ _ ≤ (if at' l ((0 : Nat) : Int) > at' l 0 then at' l ((0 : Nat) : Int) else at' l 0) ∧ (if at' l ((0 : Nat) : Int) > at' l 0 then at' l ((0 : Nat) : Int) else at' l 0) ≤ _
    rw [if_neg (show ¬ at' l ((0 : Nat) : Int) < at' l 0 from fun h => absurd h (Int.lt_irrefl _)), if_neg (show ¬ at' l ((0 : Nat) : Int) > at' l 0 from fun h => absurd h (Int.lt_irrefl _))]
    exact ⟨this.1, this.2, this.1, this.2⟩
  | i + 2, h, _ => by
    have ih := loF_ge (l := l) (i := i + 1) (fun j hj => h j (by omega)) (by omega)
    have := h (i + 1) (by omega)
    show _ ≤ (if at' l ((i + 1 : Nat) : Int) < loF l (i + 1) then at' l ((i + 1 : Nat) : Int) else loF l (i + 1)) ∧ (if at' l ((i + 1 : Nat) : Int) < loF l (i + 1) then at' l ((i + 1 : Nat) : Int) else loF l (i + 1)) ≤ _ ∧ _ ≤ (if at' l ((i + 1 : Nat) : Int) > hiF l (i + 1) then at' l ((i + 1 : Nat) : Int) else hiF l (i + 1)) ∧ (if at' l ((i + 1 : Nat) : Int) > hiF l (i + 1) then at' l ((i + 1 : Nat) : Int) else hiF l (i + 1)) ≤ _
    unfold kL at this
    refine ⟨?_, ?_, ?_, ?_⟩ <;> split <;> omega
/-- The items 0 .. c - 1 in order. -/
def lsK (kf : Nat → Int) : Nat → List Itm
  | 0 => []
  | c + 1 => insR (lsK kf c) ⟨kf c, c⟩
theorem lsK_mem {kf : Nat → Int} {x : Itm} : ∀ {c : Nat}, x ∈ lsK kf c ↔ ∃ a, a < c ∧ x = ⟨kf a, a⟩
  | 0 => ⟨fun h => (by cases h), fun ⟨a, h, _⟩ => (by omega)⟩
  | c + 1 => by
    show x ∈ insR _ _ ↔ _
    rw [insR_mem, lsK_mem (c := c)]
    constructor
    · rintro (rfl | ⟨a, h, e⟩)
      · exact ⟨c, by omega, rfl⟩
      · exact ⟨a, by omega, e⟩
    · rintro ⟨a, h, e⟩
      by_cases q : a = c
      · subst q; exact .inl e
      · exact .inr ⟨a, by omega, e⟩
theorem lsK_len (kf : Nat → Int) : ∀ c, (lsK kf c).length = c
  | 0 => rfl
  | c + 1 => by show (insR _ _).length = _; rw [insR_len, lsK_len kf c]
theorem lsK_up (kf : Nat → Int) : ∀ c, (lsK kf c).Pairwise ltI
  | 0 => List.Pairwise.nil
  | c + 1 => insR_up (lsK_up kf c) fun y hy => by
    obtain ⟨a, h, rfl⟩ := lsK_mem.1 hy
    show a ≠ c; omega
theorem rel_all {kf : Nat → Int} {h : Nat → Nat} {c : Nat} (hp : HP kf h c) (hin : ∀ a, a < c → InH h c a) (hlt : ∀ j, j < c → h j < c) : Rel kf h c (lsK kf c) :=
  ⟨hp, (lsK_len kf c).symm, lsK_up kf c, fun x hx => by obtain ⟨a, _, rfl⟩ := lsK_mem.1 hx; rfl, fun j hj => ⟨⟨kf (h j), h j⟩, lsK_mem.2 ⟨h j, hlt j hj, rfl⟩, rfl⟩, fun x hx => by obtain ⟨a, ha, rfl⟩ := lsK_mem.1 hx; exact hin a ha⟩
abbrev Hal (kf : Nat → Int) (h : Nat → Nat) (c : Nat) : Prop := Hst kf h c c c (lsK kf c)
theorem Hal.in {kf : Nat → Int} {h : Nat → Nat} {c a : Nat} (s : Hal kf h c) (ha : a < c) : InH h c a := s.rel.out ⟨kf a, a⟩ (lsK_mem.2 ⟨a, ha, rfl⟩)
theorem Hal.put {kf : Nat → Int} {h : Nat → Nat} {c : Nat} (s : Hal kf h c) : Hal kf (upF kf c (upd1 h c c) c) (c + 1) := by
  have hn : ¬ InH h c c := fun ⟨j, hj, e⟩ => by have := s.lt j hj; omega
  exact ⟨s.rel.put hn (Nat.le_refl _), put_inj s.inj hn, Nat.le_refl _, up_lt _ _ _ (by omega) (put_lt s.lt)⟩
theorem ch_in {kg : Nat → Int} {h : Nat → Nat} {L j v : Nat} (hl : j < L) : InH (chF kg h L j) L v ↔ InH h L v := by
  unfold chF
  rw [dn_in _ _ _ (by have := ch_pos (kf := kg) (h := h) hl; omega), up_in _ _ _ hl]
theorem Hal.ch {kf : Nat → Int} {h : Nat → Nat} {c j q : Nat} {x : Int} (s : Hal kf h c) (hl : j < c) (hj : h j = q) : Hal (kgF kf q x) (chF (kgF kf q x) h c j) c := by
  subst hj
  have t := Hst.ch (x := x) s hl
  exact ⟨rel_all t.rel.hp (fun a ha => (ch_in hl).2 (s.in ha)) t.lt, t.inj, Nat.le_refl _, t.lt⟩
theorem at_drop (m : List Itm) (i : Nat) : at' (m.drop i) 0 = at' m (i : Int) := by
  unfold at'; simp [List.getD_eq_getElem?_getD]
theorem at_mem {m : List Itm} {i : Nat} (h : (i : Int) < m.length) : at' m (i : Int) ∈ m := List.mem_of_getElem? (oat h)
theorem Hst.popi {kf : Nat → Int} {h : Nat → Nat} {c i : Nat} {m : List Itm} (s : Hst kf h (c - i) c c (m.drop i)) (hi : i < c) : Hst kf (popH kf h (c - i)) (c - (i + 1)) c c (m.drop (i + 1)) := by
  have := s.pop (by omega)
  rw [List.drop_drop] at this
  exact this
theorem gone {kf : Nat → Int} {h : Nat → Nat} {L M c d i : Nat} (s : Hst kf h L M d ((lsK kf c).drop (i + 1))) (hi : i < c) : posF h L (at' (lsK kf c) (i : Int)).n = -1 := by
  refine pos_none fun q => ?_
  obtain ⟨y, hy, e⟩ := wasR_iff.1 (s.rel.in_iff.1 q)
  have hl := lsK_len kf c
  have nd : ((lsK kf c).map Itm.n).Nodup := up_nodup (kf := kf) (lsK_up kf c) fun x hx => by obtain ⟨a, _, rfl⟩ := lsK_mem.1 hx; rfl
  have hs : (lsK kf c).drop i = at' (lsK kf c) (i : Int) :: (lsK kf c).drop (i + 1) := by
    rw [List.drop_eq_getElem_cons (by omega), at_nat _ _ (by omega)]
  have nd2 : (((lsK kf c).drop i).map Itm.n).Nodup := List.Nodup.sublist (List.Sublist.map _ (List.drop_sublist _ _)) nd
  rw [hs, List.map_cons, List.nodup_cons] at nd2
  exact nd2.1 (List.mem_map.2 ⟨y, hy, e⟩)
theorem head_q {kf : Nat → Int} {c q : Nat} (hq : q < c) (h : ∀ a, a < c → a ≠ q → kf q < kf a) : (at' (lsK kf c) 0).n = q := by
  have hl := lsK_len kf c
  have hu := lsK_up kf c
  have hm : (⟨kf q, q⟩ : Itm) ∈ lsK kf c := lsK_mem.2 ⟨q, hq, rfl⟩
  have hall : ∀ x ∈ lsK kf c, ∃ a, a < c ∧ x = ⟨kf a, a⟩ := fun x hx => lsK_mem.1 hx
  cases hls : lsK kf c with
  | nil => rw [hls] at hm; cases hm
  | cons y m =>
    rw [hls] at hm hu hall
    show y.n = q
    obtain ⟨a, ha, rfl⟩ := hall y (List.mem_cons_self ..)
    refine Classical.byContradiction fun hn => ?_
    have h1 := h a ha hn
    rcases List.mem_cons.1 hm with e | hm
    · injection e with e1 e2; exact hn e2.symm
    · have := (List.pairwise_cons.1 hu).1 _ hm
      unfold ltI at this; dsimp only at this; omega
theorem last_q {kf : Nat → Int} {c q : Nat} (hq : q < c) (h : ∀ a, a < c → a ≠ q → kf a < kf q) : (at' (lsK kf c) ((c : Int) - 1)).n = q := by
  have hl := lsK_len kf c
  have hu := lsK_up kf c
  obtain ⟨i, hi⟩ := List.getElem?_of_mem (lsK_mem.2 ⟨q, hq, rfl⟩ : (⟨kf q, q⟩ : Itm) ∈ lsK kf c)
  have hil : i < (lsK kf c).length := by
    rcases Nat.lt_or_ge i (lsK kf c).length with z | z
    · exact z
    · rw [List.getElem?_eq_none z] at hi; cases hi
  rw [List.getElem?_eq_getElem hil] at hi
  have hi := Option.some.inj hi
  rw [show ((c : Int) - 1) = ((c - 1 : Nat) : Int) by omega, at_nat _ _ (by omega)]
  refine Classical.byContradiction fun hn => ?_
  have hlt : i < c - 1 := by
    refine Classical.byContradiction fun z => hn ?_
    have : i = c - 1 := by omega
    subst this; rw [hi]
  have hp := List.pairwise_iff_getElem.1 hu i (c - 1) hil (by omega) hlt
  obtain ⟨a, ha, e⟩ := lsK_mem.1 (List.getElem_mem (show c - 1 < (lsK kf c).length by omega))
  rw [hi, e] at hp
  rw [e] at hn
  have h1 := h a ha hn
  unfold ltI at hp; dsimp only at hp; omega
theorem idx_q {c : Nat} {a : Int} (ha : 0 ≤ a) (hc : 0 < c) : a.tmod c = ((a.toNat % c : Nat) : Int) ∧ a.toNat % c < c := by
  refine ⟨?_, Nat.mod_lt _ hc⟩
  rw [Int.tmod_eq_emod_of_nonneg ha]
  obtain ⟨n, rfl⟩ : ∃ n : Nat, a = n := ⟨a.toNat, by omega⟩
  rw [Int.toNat_natCast]; exact (Int.natCast_emod n c).symm
theorem rng_s {l : List Int} {i : Nat} (h : ∀ j, j < i → -1000 ≤ kL l j ∧ kL l j ≤ 1000) (h1 : ¬ at' l (i : Int) < -1000) (h2 : ¬ at' l (i : Int) > 1000) : ∀ j, j < i + 1 → -1000 ≤ kL l j ∧ kL l j ≤ 1000 := by
  intro j hj
  by_cases e : j = i
  · subst e; unfold kL; omega
  · exact h j (by omega)
set_option maxRecDepth 100000 in
set_option maxHeartbeats 4000000 in
theorem raises_lo (l : List Int) (ax : Int) (hl : (l.length : Int) ≤ 9223372036854775807) (ha : 0 ≤ ax ∧ ax < 256) : Does Try.prog 4 [.sl 1 (l.map iR), .sc (.int .u8 ax), .sc (.bool true)] [] [] (.sc (.bool true)) := by
  refine does_mkg 300 Try.func4 rfl rfl rfl (fun n B bx hd hpre hup hvs hbx hgx => ?_)
  refine runs_seq ?_
  refine runs_region ?_
  refine rl0 (gn rfl) rfl rfl (step_as rfl rfl) trivial ?_
  refine runsL_nil ?_
  refine runs_seq ?_
  refine runs_seq ?_
  refine runs_region ?_
  refine rl0 (gn rfl) rfl rfl (step_mv rfl rfl) trivial ?_
  refine rl0 (gn rfl) rfl rfl (step_len (m := l.length) rfl rfl (ev_mk rfl) (.inl ⟨⟨_, Try.underlying44⟩, .inl ⟨_, _, .inl rfl, List.length_map _⟩⟩)) trivial ?_
  refine rl_gtr (gn rfl) rfl rfl rfl rfl rfl (fun h1 => ?_) (fun h1 => ?_)
  · skip
    refine rl0 (gn rfl) rfl rfl (step_mv rfl rfl) trivial ?_
    refine rlk rfl rfl rfl rfl rfl (ngb rfl rfl) rfl rfl ?_
    refine rlk rfl rfl rfl rfl rfl (ngb rfl rfl) rfl rfl ?_
    refine rlk rfl rfl rfl rfl rfl (ngb rfl rfl) rfl rfl ?_
    refine rl0 (gn rfl) rfl rfl (step_pick rfl (ev_mk rfl) (ev_mk rfl)) trivial ?_
    refine runsL_nil ?_
    refine runs_cond true (ev_mk rfl) (fun _ => ?_) (fun h_ => nomatch h_)
    refine runs_seq ?_
    refine runs_region ?_
    refine rl0 (gn rfl) rfl rfl (step_callc rfl Try.func6 rfl rfl rfl (works_c) (by repeat (first | exact .nil | refine .cons ?_ ?_ | exact VLe.refl _ | exact vle_int (by omega) | exact vle_int hki_.symm | exact vle_int (kgF_c _ _ _) | exact vle_int (kgF_c _ _ _).symm | exact VLe.own_sl _ _ _ | exact VLe.fl_sl _ _ | exact VLe.nil_sl _ | exact VLe.nil_fl _ | refine VLe.agg ?_))) trivial ?_
    refine rl0 (gn rfl) rfl rfl (step_as rfl rfl) trivial ?_
    refine runsL_nil ?_
    refine runs_ret ?_
    refine ⟨by first | exact .inr rfl | exact .inl rfl, fin_mkg (rest rfl res0) ?_ ?_ ?_ ?_ ?_⟩
    · (repeat' (first | exact VLe.refl _ | exact VLe.own_sl _ _ _ | exact VLe.fl_sl _ _ | exact VLe.nil_sl _ | exact VLe.nil_fl _ | exact VLes.refl _ | exact .nil | refine VLe.tup ?_ | refine VLe.agg ?_ | refine .cons ?_ ?_ | (rw [Int.natCast_add]; exact VLe.refl _) | exact vle_int (by omega) | exact vle_bool (by first | rfl | assumption | (simp_all; done) | fail) | fail))
    · first | ((repeat (first | exact trivial | exact allR_bd (by omega) | assumption | omega | refine ⟨?_, ?_⟩ | fail)); done) | (repeat (first | exact trivial | assumption | omega | (refine bdR_map (fun _ => ?_)) | (refine bdL_map (fun _ => ?_)) | refine ⟨?_, ?_⟩ | fail))
    · intro k_ hk_; exact ble (by repeat (first | exact rfl | refine uN (by omega) ?_ | assumption | fail))
    · intro p hp; cases hp
    · first | ((repeat (first | exact trivial | exact allR_bd (by omega) | assumption | omega | refine ⟨?_, ?_⟩ | fail)); done) | (repeat (first | exact trivial | assumption | omega | (refine bdR_map (fun _ => ?_)) | (refine bdL_map (fun _ => ?_)) | refine ⟨?_, ?_⟩ | fail))
  · skip
    refine rl0 (gn rfl) rfl rfl (step_mv rfl rfl) trivial ?_
    refine rl0 (gy rfl rfl rfl rfl rfl rfl) rfl rfl (step_mv rfl rfl) trivial ?_
    refine rl0 (gy rfl rfl rfl rfl rfl rfl) rfl rfl (step_len (m := l.length) rfl rfl (ev_mk rfl) (.inl ⟨⟨_, Try.underlying44⟩, .inl ⟨_, _, .inl rfl, List.length_map _⟩⟩)) trivial ?_
    refine rl_eql (gy rfl rfl rfl rfl rfl rfl) rfl rfl rfl rfl rfl (fun h2 => ?_) (fun h2 => ?_)
    · skip
      refine rl0 (gn rfl) rfl rfl (step_pick rfl (ev_mk rfl) (ev_mk rfl)) trivial ?_
      refine runsL_nil ?_
      refine runs_cond true (ev_mk rfl) (fun _ => ?_) (fun h_ => nomatch h_)
      refine runs_seq ?_
      refine runs_region ?_
      refine rl0 (gn rfl) rfl rfl (step_callc rfl Try.func6 rfl rfl rfl (works_c) (by repeat (first | exact .nil | refine .cons ?_ ?_ | exact VLe.refl _ | exact vle_int (by omega) | exact vle_int hki_.symm | exact vle_int (kgF_c _ _ _) | exact vle_int (kgF_c _ _ _).symm | exact VLe.own_sl _ _ _ | exact VLe.fl_sl _ _ | exact VLe.nil_sl _ | exact VLe.nil_fl _ | refine VLe.agg ?_))) trivial ?_
      refine rl0 (gn rfl) rfl rfl (step_as rfl rfl) trivial ?_
      refine runsL_nil ?_
      refine runs_ret ?_
      refine ⟨by first | exact .inr rfl | exact .inl rfl, fin_mkg (rest rfl res0) ?_ ?_ ?_ ?_ ?_⟩
      · (repeat' (first | exact VLe.refl _ | exact VLe.own_sl _ _ _ | exact VLe.fl_sl _ _ | exact VLe.nil_sl _ | exact VLe.nil_fl _ | exact VLes.refl _ | exact .nil | refine VLe.tup ?_ | refine VLe.agg ?_ | refine .cons ?_ ?_ | (rw [Int.natCast_add]; exact VLe.refl _) | exact vle_int (by omega) | exact vle_bool (by first | rfl | assumption | (simp_all; done) | fail) | fail))
      · first | ((repeat (first | exact trivial | exact allR_bd (by omega) | assumption | omega | refine ⟨?_, ?_⟩ | fail)); done) | (repeat (first | exact trivial | assumption | omega | (refine bdR_map (fun _ => ?_)) | (refine bdL_map (fun _ => ?_)) | refine ⟨?_, ?_⟩ | fail))
      · intro k_ hk_; exact ble (by repeat (first | exact rfl | refine uN (by omega) ?_ | assumption | fail))
      · intro p hp; cases hp
      · first | ((repeat (first | exact trivial | exact allR_bd (by omega) | assumption | omega | refine ⟨?_, ?_⟩ | fail)); done) | (repeat (first | exact trivial | assumption | omega | (refine bdR_map (fun _ => ?_)) | (refine bdL_map (fun _ => ?_)) | refine ⟨?_, ?_⟩ | fail))
    · skip
      refine rl0 (gn rfl) rfl rfl (step_pick rfl (ev_mk rfl) (ev_mk rfl)) trivial ?_
      refine runsL_nil ?_
      refine runs_cond false (ev_mk rfl) (fun h_ => nomatch h_) (fun _ => ?_)
      refine runs_skip ?_
      refine runs_seq ?_
      refine runs_region ?_
      refine rl1 (gn rfl) rfl rfl (step_callc rfl Try.func7 rfl rfl rfl (new_c (n + 0)) (by repeat (first | exact .nil | refine .cons ?_ ?_ | exact VLe.refl _ | exact vle_int (by omega) | exact vle_int hki_.symm | exact vle_int (kgF_c _ _ _) | exact vle_int (kgF_c _ _ _).symm | exact VLe.own_sl _ _ _ | exact VLe.fl_sl _ _ | exact VLe.nil_sl _ | exact VLe.nil_fl _ | refine VLe.agg ?_))) ⟨by repeat (first | exact uE | refine uN (by omega) ?_ | assumption | exact hd _ (by omega) | fail), trivial⟩ (by omega) ?_
      refine rl0 (gn rfl) rfl rfl (step_as rfl rfl) trivial ?_
      refine runsL_nil ?_
      refine runs_seq ?_
      refine runs_seq ?_
      refine runs_region ?_
      refine rl0 (gn rfl) rfl rfl (step_mv rfl rfl) trivial ?_
      refine rl0 (gn rfl) rfl rfl (step_eq_nil (b := false) rfl (ev_mk rfl) (ev_mk rfl) Try.underlying24 ⟨_, .inl ⟨.inl ⟨_, _, rfl⟩, rfl⟩, .inl ⟨rfl, rfl⟩⟩) trivial ?_
      refine runsL_nil ?_
      refine runs_cond false (ev_mk rfl) (fun h_ => nomatch h_) (fun _ => ?_)
      refine runs_skip ?_
      refine runs_seq ?_
      refine runs_region ?_
      refine rl0 (gn rfl) rfl rfl (step_as rfl rfl) trivial ?_
      refine runsL_nil ?_
      refine runs_seq ?_
      refine runs_region ?_
      refine rl0 (gn rfl) rfl rfl (step_as rfl rfl) trivial ?_
      refine runsL_nil ?_
      refine runs_seq ?_
      refine runs_draw (by kernel_rfl) (by kernel_rfl) (by kernel_rfl) ?_
      refine dl0 (gn rfl) rfl rfl (step_mv rfl rfl) trivial ?_
      refine' dl0 (gn rfl) rfl rfl (step_index rfl (ev_mk rfl) (.inl rfl) (ev_mk rfl) Try.underlying44 F.sz3 (by omega) ?hr) trivial ?_
      case hr => exact map_at _ _ _ (by omega) (by omega)
      refine dl0 (gn rfl) rfl rfl (step_load_ro rfl (ev_mk rfl) F.one3 rfl) trivial ?_
      refine dl0 (gn rfl) rfl rfl (step_mv rfl rfl) trivial ?_
      refine' dl0 (gn rfl) rfl rfl (step_index rfl (ev_mk rfl) (.inl rfl) (ev_mk rfl) Try.underlying44 F.sz3 (by omega) ?hr) trivial ?_
      case hr => exact map_at _ _ _ (by omega) (by omega)
      refine dl0 (gn rfl) rfl rfl (step_load_ro rfl (ev_mk rfl) F.one3 rfl) trivial ?_
      refine dl0 (gn rfl) rfl rfl (step_as rfl rfl) trivial ?_
      refine dl0 (gn rfl) rfl rfl (step_as rfl rfl) trivial ?_
      refine dlnil ?_ ?_
      · repeat' (first | exact trivial | exact .inr (ap0 _ _ _ _) | exact .inr (ap2 _ _ _ _) | exact .inr (ap3 _ _ _ _) | exact .inr ⟨by first | (simp; done) | (simp; omega), by first | (simp; done) | (simp; omega)⟩ | exact .inl (by kernel_rfl) | refine ⟨?_, ?_⟩ | fail)
      refine runs_seq ?_
      refine runs_seq ?_
      refine runs_region ?_
      refine rl0 (gn rfl) rfl rfl (step_as rfl rfl) trivial ?_
      refine runsL_nil ?_
      refine runs_block ?_
      refine runs_growgb (k := n + 0) (kn := n + 1) (q := 0) (e := 1) (by repeat (first | exact uE | refine uN (by omega) ?_ | assumption | exact hd _ (by omega) | fail)) rfl (by repeat (first | exact uE | refine uN (by omega) ?_ | assumption | exact hd _ (by omega) | fail)) (by omega) (by omega) ?_
      refine runs_grow (l' := []) (d := 8) (k := n + 2) (e := 1) (xs := []) rfl (.inr ⟨rfl, rfl⟩) (by repeat (first | exact uE | refine uN (by omega) ?_ | assumption | exact hd _ (by omega) | fail)) (by omega) ?_
      have hs0_ : [] = (allR (n + 10) 0) := by rfl
      have hs1_ : at' l 0 = loF l 0 := by rfl
      have hs2_ : at' l 0 = hiF l 0 := by rfl
      have hs3_ : 0 = (0 : Int) := by first | rfl | omega
      have hs4_ : [] = rowsH (n + 10) (fun _ => 0) 0 := by rfl
      have hs5_ : 0 = (allR (n + 10) 0).length := by first | rfl | omega
      refine runs_loop (fun (ri_ : Nat) (st_ : Go.Vm.S) => ∃ (i : Nat) (h : Nat → Nat) (m0 : Nat) (b0 : Nat → Box), (st_ = ⟨mk [(0, .sl 1 (l.map iR)), (1, .sc (.int .u8 ax)), (2, .sc (.bool true)), (6, .sc (.bool false)), (7, .ref (n + 0) 0), (8, .own 1 (allR (n + 10) i) (n + 2)), (9, .sc (.slice none 0 0)), (10, .sc (.int .i64 (loF l i))), (11, .sc (.int .i64 (hiF l i))), (12, .sc (.int .i64 (i : Int)))], m0, b0⟩) ∧ (ri_ = 1 + (l.length - i)) ∧ (n + 150 ≤ m0) ∧ (∀ k_, k_ < n → b0 k_ = bx k_) ∧ (b0 (n + 0) = .cells [.gsl (n + 1) i 0 i 1, .sc (.func (.func 8) #[] #[]), .sc (.int .i64 (i : Int))]) ∧ (b0 (n + 1) = .gcells i 1 (rowsH (n + 10) h i)) ∧ (b0 (n + 2) = .tail (allR (n + 10) i).length) ∧ (i ≤ l.length) ∧ (Hal (kL l) h i) ∧ (∀ a, a < i → b0 (n + 10 + a) = .cells (itC (kL l) h i a)) ∧ (∀ a, i ≤ a → a < 128 → b0 (n + 10 + a) = .dead) ∧ (∀ j, j < i → -1000 ≤ kL l j ∧ kL l j ≤ 1000)) (1 + (l.length - 0)) ⟨_, sle ?_ (Nat.le_refl _), 0, (fun _ => 0), _, _, rfl, rfl, ?_⟩ ?_
      · (repeat' (first | exact trivial | refine ⟨⟨_, rfl, ?_⟩, ?_⟩ | fail)); all_goals (repeat' (first | exact VLe.refl _ | exact VLe.own_sl _ _ _ | exact VLe.fl_sl _ _ | exact VLe.nil_sl _ | exact VLe.nil_fl _ | exact VLes.refl _ | exact .nil | refine VLe.tup ?_ | refine VLe.agg ?_ | refine .cons ?_ ?_ | (rw [Int.natCast_add]; exact VLe.refl _) | exact vle_int (by omega) | exact vle_bool (by first | rfl | assumption | (simp_all; done) | fail) | (rw [← hs0_]; exact VLe.refl _) | (rw [hs0_]; exact VLe.refl _) | (rw [← hs1_]; exact VLe.refl _) | (rw [hs1_]; exact VLe.refl _) | (rw [← hs2_]; exact VLe.refl _) | (rw [hs2_]; exact VLe.refl _) | (rw [← hs3_]; exact VLe.refl _) | (rw [hs3_]; exact VLe.refl _) | (rw [← hs4_]; exact VLe.refl _) | (rw [hs4_]; exact VLe.refl _) | (rw [← hs5_]; exact VLe.refl _) | (rw [hs5_]; exact VLe.refl _) | fail))
      · exact ⟨by omega, (fun k_ hk_ => by repeat (first | exact rfl | refine uN (by omega) ?_ | assumption | fail)), by first | ((repeat (first | exact uE | assumption | refine uN (by omega) ?_ | fail)); done) | exact tl_eq (by repeat (first | exact uE | assumption | refine uN (by omega) ?_ | fail)) (by first | rfl | (simp [bytesV, beB_len]; done) | (simp [bytesV, beB_len]; omega) | omega) | (rw [← hs0_]; (repeat (first | exact uE | assumption | refine uN (by omega) ?_ | fail)); done) | (rw [← hs1_]; (repeat (first | exact uE | assumption | refine uN (by omega) ?_ | fail)); done) | (rw [← hs2_]; (repeat (first | exact uE | assumption | refine uN (by omega) ?_ | fail)); done) | (rw [← hs3_]; (repeat (first | exact uE | assumption | refine uN (by omega) ?_ | fail)); done) | (rw [← hs4_]; (repeat (first | exact uE | assumption | refine uN (by omega) ?_ | fail)); done) | (rw [← hs5_]; (repeat (first | exact uE | assumption | refine uN (by omega) ?_ | fail)); done) | (rw [← hs0_, ← hs1_, ← hs2_, ← hs3_, ← hs4_, ← hs5_]; (repeat (first | exact uE | assumption | refine uN (by omega) ?_ | fail)); done), by first | ((repeat (first | exact uE | assumption | refine uN (by omega) ?_ | fail)); done) | exact tl_eq (by repeat (first | exact uE | assumption | refine uN (by omega) ?_ | fail)) (by first | rfl | (simp [bytesV, beB_len]; done) | (simp [bytesV, beB_len]; omega) | omega) | (rw [← hs0_]; (repeat (first | exact uE | assumption | refine uN (by omega) ?_ | fail)); done) | (rw [← hs1_]; (repeat (first | exact uE | assumption | refine uN (by omega) ?_ | fail)); done) | (rw [← hs2_]; (repeat (first | exact uE | assumption | refine uN (by omega) ?_ | fail)); done) | (rw [← hs3_]; (repeat (first | exact uE | assumption | refine uN (by omega) ?_ | fail)); done) | (rw [← hs4_]; (repeat (first | exact uE | assumption | refine uN (by omega) ?_ | fail)); done) | (rw [← hs5_]; (repeat (first | exact uE | assumption | refine uN (by omega) ?_ | fail)); done) | (rw [← hs0_, ← hs1_, ← hs2_, ← hs3_, ← hs4_, ← hs5_]; (repeat (first | exact uE | assumption | refine uN (by omega) ?_ | fail)); done), by first | ((repeat (first | exact uE | assumption | refine uN (by omega) ?_ | fail)); done) | exact tl_eq (by repeat (first | exact uE | assumption | refine uN (by omega) ?_ | fail)) (by first | rfl | (simp [bytesV, beB_len]; done) | (simp [bytesV, beB_len]; omega) | omega) | (rw [← hs0_]; (repeat (first | exact uE | assumption | refine uN (by omega) ?_ | fail)); done) | (rw [← hs1_]; (repeat (first | exact uE | assumption | refine uN (by omega) ?_ | fail)); done) | (rw [← hs2_]; (repeat (first | exact uE | assumption | refine uN (by omega) ?_ | fail)); done) | (rw [← hs3_]; (repeat (first | exact uE | assumption | refine uN (by omega) ?_ | fail)); done) | (rw [← hs4_]; (repeat (first | exact uE | assumption | refine uN (by omega) ?_ | fail)); done) | (rw [← hs5_]; (repeat (first | exact uE | assumption | refine uN (by omega) ?_ | fail)); done) | (rw [← hs0_, ← hs1_, ← hs2_, ← hs3_, ← hs4_, ← hs5_]; (repeat (first | exact uE | assumption | refine uN (by omega) ?_ | fail)); done), (by omega), Hst.nil _ _, (fun _ h_ => absurd h_ (Nat.not_lt_zero _)), (fun a_ _ _ => by repeat (first | exact uE | refine uN (by omega) ?_ | assumption | exact hd _ (by omega) | fail)), (fun _ h_ => absurd h_ (Nat.not_lt_zero _))⟩
      · rintro _ _ ⟨i, h, m0, b0, rfl, rfl, hm0, hf0, hB0_0, hB0_1, hB0_2, hF0_0, hF0_1, hF0_2, hF0_3, hF0_4⟩
        refine runs_know (fun hd0 => ?_)
        refine runs_bump 20 ?_
        simp only at hd0
        refine runs_seq ?_
        refine runs_seq ?_
        refine runs_region ?_
        refine rl0 (gn rfl) rfl rfl (step_mv rfl rfl) trivial ?_
        refine rl0 (gn rfl) rfl rfl (step_mv rfl rfl) trivial ?_
        refine rl0 (gn rfl) rfl rfl (step_len (m := l.length) rfl rfl (ev_mk rfl) (.inl ⟨⟨_, Try.underlying44⟩, .inl ⟨_, _, .inl rfl, List.length_map _⟩⟩)) trivial ?_
        refine rl_lss (gn rfl) rfl rfl rfl rfl rfl (fun h3 => ?_) (fun h3 => ?_)
        · skip
          refine runsL_nil ?_
          refine runs_cond true (ev_mk rfl) (fun _ => ?_) (fun h_ => nomatch h_)
          refine runs_skip ?_
          refine runs_seq ?_
          refine runs_block ?_
          refine runs_seq ?_
          refine runs_seq ?_
          refine runs_region ?_
          refine rl0 (gn rfl) rfl rfl (step_mv rfl rfl) trivial ?_
          refine rl0 (gn rfl) rfl rfl (step_mv rfl rfl) trivial ?_
          refine' rl0 (gn rfl) rfl rfl (step_index rfl (ev_mk rfl) (.inl rfl) (ev_mk rfl) Try.underlying44 F.sz3 (by omega) ?hr) trivial ?_
          case hr => exact map_at _ _ _ (by omega) (by omega)
          refine rl0 (gn rfl) rfl rfl (step_load_ro rfl (ev_mk rfl) F.one3 rfl) trivial ?_
          refine rl_lss (gn rfl) rfl rfl rfl rfl rfl (fun h4 => ?_) (fun h4 => ?_)
          · skip
            refine rl0 (gn rfl) rfl rfl (step_mv rfl rfl) trivial ?_
            refine rlk rfl rfl rfl rfl rfl (ngb rfl rfl) rfl rfl ?_
            refine rlk rfl rfl rfl rfl rfl (ngb rfl rfl) rfl rfl ?_
            refine rlk rfl rfl rfl rfl rfl (ngb rfl rfl) rfl rfl ?_
            refine rlk rfl rfl rfl rfl rfl (ngb rfl rfl) rfl rfl ?_
            refine rlk rfl rfl rfl rfl rfl (ngb rfl rfl) rfl rfl ?_
            refine rl0 (gn rfl) rfl rfl (step_pick rfl (ev_mk rfl) (ev_mk rfl)) trivial ?_
            refine runsL_nil ?_
            refine runs_cond true (ev_mk rfl) (fun _ => ?_) (fun h_ => nomatch h_)
            refine runs_seq ?_
            refine runs_region ?_
            refine rl0 (gn rfl) rfl rfl (step_callc rfl Try.func6 rfl rfl rfl (works_c) (by repeat (first | exact .nil | refine .cons ?_ ?_ | exact VLe.refl _ | exact vle_int (by omega) | exact vle_int hki_.symm | exact vle_int (kgF_c _ _ _) | exact vle_int (kgF_c _ _ _).symm | exact VLe.own_sl _ _ _ | exact VLe.fl_sl _ _ | exact VLe.nil_sl _ | exact VLe.nil_fl _ | refine VLe.agg ?_))) trivial ?_
            refine rl0 (gn rfl) rfl rfl (step_as rfl rfl) trivial ?_
            refine runsL_nil ?_
            refine runs_ret ?_
            refine ⟨by first | exact .inr rfl | exact .inl rfl, fin_mkg (rest rfl res0) ?_ ?_ ?_ ?_ ?_⟩
            · (repeat' (first | exact VLe.refl _ | exact VLe.own_sl _ _ _ | exact VLe.fl_sl _ _ | exact VLe.nil_sl _ | exact VLe.nil_fl _ | exact VLes.refl _ | exact .nil | refine VLe.tup ?_ | refine VLe.agg ?_ | refine .cons ?_ ?_ | (rw [Int.natCast_add]; exact VLe.refl _) | exact vle_int (by omega) | exact vle_bool (by first | rfl | assumption | (simp_all; done) | fail) | fail))
            · first | ((repeat (first | exact trivial | exact allR_bd (by omega) | assumption | omega | refine ⟨?_, ?_⟩ | fail)); done) | (repeat (first | exact trivial | assumption | omega | (refine bdR_map (fun _ => ?_)) | (refine bdL_map (fun _ => ?_)) | refine ⟨?_, ?_⟩ | fail))
            · intro k_ hk_; exact ble (by repeat (first | exact rfl | refine uN (by omega) ?_ | assumption | exact hf0 _ (by omega) | fail))
            · intro p hp; cases hp
            · first | ((repeat (first | exact trivial | exact allR_bd (by omega) | assumption | omega | refine ⟨?_, ?_⟩ | fail)); done) | (repeat (first | exact trivial | assumption | omega | (refine bdR_map (fun _ => ?_)) | (refine bdL_map (fun _ => ?_)) | refine ⟨?_, ?_⟩ | fail))
          · skip
            have hlo_ := h4
            refine rl0 (gn rfl) rfl rfl (step_mv rfl rfl) trivial ?_
            refine rl0 (gy rfl rfl rfl rfl rfl rfl) rfl rfl (step_mv rfl rfl) trivial ?_
            refine rl0 (gy rfl rfl rfl rfl rfl rfl) rfl rfl (step_mv rfl rfl) trivial ?_
            refine' rl0 (gy rfl rfl rfl rfl rfl rfl) rfl rfl (step_index rfl (ev_mk rfl) (.inl rfl) (ev_mk rfl) Try.underlying44 F.sz3 (by omega) ?hr) trivial ?_
            case hr => exact map_at _ _ _ (by omega) (by omega)
            refine rl0 (gy rfl rfl rfl rfl rfl rfl) rfl rfl (step_load_ro rfl (ev_mk rfl) F.one3 rfl) trivial ?_
            refine rl_gtr (gy rfl rfl rfl rfl rfl rfl) rfl rfl rfl rfl rfl (fun h5 => ?_) (fun h5 => ?_)
            · skip
              refine rl0 (gn rfl) rfl rfl (step_pick rfl (ev_mk rfl) (ev_mk rfl)) trivial ?_
              refine runsL_nil ?_
              refine runs_cond true (ev_mk rfl) (fun _ => ?_) (fun h_ => nomatch h_)
              refine runs_seq ?_
              refine runs_region ?_
              refine rl0 (gn rfl) rfl rfl (step_callc rfl Try.func6 rfl rfl rfl (works_c) (by repeat (first | exact .nil | refine .cons ?_ ?_ | exact VLe.refl _ | exact vle_int (by omega) | exact vle_int hki_.symm | exact vle_int (kgF_c _ _ _) | exact vle_int (kgF_c _ _ _).symm | exact VLe.own_sl _ _ _ | exact VLe.fl_sl _ _ | exact VLe.nil_sl _ | exact VLe.nil_fl _ | refine VLe.agg ?_))) trivial ?_
              refine rl0 (gn rfl) rfl rfl (step_as rfl rfl) trivial ?_
              refine runsL_nil ?_
              refine runs_ret ?_
              refine ⟨by first | exact .inr rfl | exact .inl rfl, fin_mkg (rest rfl res0) ?_ ?_ ?_ ?_ ?_⟩
              · (repeat' (first | exact VLe.refl _ | exact VLe.own_sl _ _ _ | exact VLe.fl_sl _ _ | exact VLe.nil_sl _ | exact VLe.nil_fl _ | exact VLes.refl _ | exact .nil | refine VLe.tup ?_ | refine VLe.agg ?_ | refine .cons ?_ ?_ | (rw [Int.natCast_add]; exact VLe.refl _) | exact vle_int (by omega) | exact vle_bool (by first | rfl | assumption | (simp_all; done) | fail) | fail))
              · first | ((repeat (first | exact trivial | exact allR_bd (by omega) | assumption | omega | refine ⟨?_, ?_⟩ | fail)); done) | (repeat (first | exact trivial | assumption | omega | (refine bdR_map (fun _ => ?_)) | (refine bdL_map (fun _ => ?_)) | refine ⟨?_, ?_⟩ | fail))
              · intro k_ hk_; exact ble (by repeat (first | exact rfl | refine uN (by omega) ?_ | assumption | exact hf0 _ (by omega) | fail))
              · intro p hp; cases hp
              · first | ((repeat (first | exact trivial | exact allR_bd (by omega) | assumption | omega | refine ⟨?_, ?_⟩ | fail)); done) | (repeat (first | exact trivial | assumption | omega | (refine bdR_map (fun _ => ?_)) | (refine bdL_map (fun _ => ?_)) | refine ⟨?_, ?_⟩ | fail))
            · skip
              have hhi_ := h5
              refine rl0 (gn rfl) rfl rfl (step_pick rfl (ev_mk rfl) (ev_mk rfl)) trivial ?_
              refine runsL_nil ?_
              refine runs_cond false (ev_mk rfl) (fun h_ => nomatch h_) (fun _ => ?_)
              refine runs_skip ?_
              refine runs_seq ?_
              have hdd_ : b0 (n + 10 + i) = .dead := hF0_3 i (by omega) (by omega)
              refine runs_region ?_
              refine rl0 (gn rfl) rfl rfl (step_mv rfl rfl) trivial ?_
              refine rl0 (gn rfl) rfl rfl (step_mv rfl rfl) trivial ?_
              refine rl0 (gn rfl) rfl rfl (step_mv rfl rfl) trivial ?_
              refine rl0 (gn rfl) rfl rfl (step_mv rfl rfl) trivial ?_
              refine' rl0 (gn rfl) rfl rfl (step_index rfl (ev_mk rfl) (.inl rfl) (ev_mk rfl) Try.underlying44 F.sz3 (by omega) ?hr) trivial ?_
              case hr => exact map_at _ _ _ (by omega) (by omega)
              refine rl0 (gn rfl) rfl rfl (step_load_ro rfl (ev_mk rfl) F.one3 rfl) trivial ?_
              refine rl_fam (gn rfl) rfl rfl (step_callc rfl Try.func10 rfl rfl rfl (push_c (kL l) h (n + 10) (n + 0) (n + 1) i i i i (Nat.le_refl _) (by omega) (by omega) hF0_1.inj hF0_1.lt (by omega) (by omega) (by omega)) (by repeat (first | exact .nil | refine .cons ?_ ?_ | exact VLe.refl _ | exact vle_int (by omega) | exact vle_int hki_.symm | exact vle_int (kgF_c _ _ _) | exact vle_int (kgF_c _ _ _).symm | exact VLe.own_sl _ _ _ | exact VLe.fl_sl _ _ | exact VLe.nil_sl _ | exact VLe.nil_fl _ | refine VLe.agg ?_))) ⟨by repeat (first | exact uE | refine uN (by omega) ?_ | assumption | exact hd _ (by omega) | exact hd0 _ (by omega) | fail), by repeat (first | exact uE | refine uN (by omega) ?_ | assumption | exact hd _ (by omega) | exact hd0 _ (by omega) | fail), by repeat (first | exact uE | refine uN (by omega) ?_ | assumption | exact hd _ (by omega) | exact hd0 _ (by omega) | fail), fam_ok (fun a_ ha_ => by repeat (first | exact hF0_2 a_ ha_ | refine uN (by omega) ?_ | fail))⟩ (by repeat (first | exact trivial | refine ⟨by omega, ?_⟩)) (by omega) (fun bz1 hfam1 hfz1 => ?_)
              simp only [upds] at hfz1
              refine rl0 (gn rfl) rfl rfl (step_lit rfl Try.underlying28 F.sz34 F.zero34 (by first | rfl | simp) (by first | rfl | simp | decide) (by decide) rfl rfl (by first | (simp [V.cs, V.stor, oneV]; done) | (simp [V.cs, V.stor, oneV])) rfl) trivial ?_
              refine' rl1 (gn rfl) rfl rfl (step_append_own rfl rfl rfl Try.underlying28 ⟨_, Try.underlying28, fun k_ => by intro h_; cases h_⟩ F.el34 (ev_mk rfl) (ev_mk rfl) (gives_sl (.inr (.inl rfl))) ?hg) ⟨?hb, trivial⟩ (by omega) ?_
              case hb => repeat (first | exact uE | refine uN (by omega) ?_ | assumption | exact hd _ (by omega) | exact hd0 _ (by omega) | refine (hfz1 _ (by first | assumption | omega)).trans ?_ | fail)
              case hg => (rw [allR_len]; show i + 1 ≤ 1073741824; omega)
              refine rl0 (gn rfl) rfl rfl (step_as rfl rfl) trivial ?_
              refine runsL_nil ?_
              refine runs_draw (by kernel_rfl) (by kernel_rfl) (by kernel_rfl) ?_
              refine dl0 (gn rfl) rfl rfl (step_mv rfl rfl) trivial ?_
              refine dl0 (gn rfl) rfl rfl (step_mv rfl rfl) trivial ?_
              refine dl0 (gn rfl) rfl rfl (step_mv rfl rfl) trivial ?_
              refine' dl0 (gn rfl) rfl rfl (step_index rfl (ev_mk rfl) (.inl rfl) (ev_mk rfl) Try.underlying44 F.sz3 (by omega) ?hr) trivial ?_
              case hr => exact map_at _ _ _ (by omega) (by omega)
              refine dl0 (gn rfl) rfl rfl (step_load_ro rfl (ev_mk rfl) F.one3 rfl) trivial ?_
              refine dl0 (gn rfl) rfl rfl (step_min rfl (ev_mk rfl) (ev_mk rfl)) trivial ?_
              refine dl0 (gn rfl) rfl rfl (step_mv rfl rfl) trivial ?_
              refine dl0 (gn rfl) rfl rfl (step_mv rfl rfl) trivial ?_
              refine dl0 (gn rfl) rfl rfl (step_mv rfl rfl) trivial ?_
              refine' dl0 (gn rfl) rfl rfl (step_index rfl (ev_mk rfl) (.inl rfl) (ev_mk rfl) Try.underlying44 F.sz3 (by omega) ?hr) trivial ?_
              case hr => exact map_at _ _ _ (by omega) (by omega)
              refine dl0 (gn rfl) rfl rfl (step_load_ro rfl (ev_mk rfl) F.one3 rfl) trivial ?_
              refine dl0 (gn rfl) rfl rfl (step_max rfl (ev_mk rfl) (ev_mk rfl)) trivial ?_
              refine dl0 (gn rfl) rfl rfl (step_as rfl rfl) trivial ?_
              refine dl0 (gn rfl) rfl rfl (step_as rfl rfl) trivial ?_
              refine dlnil ?_ ?_
              · repeat' (first | exact trivial | exact .inr (ap0 _ _ _ _) | exact .inr (ap2 _ _ _ _) | exact .inr (ap3 _ _ _ _) | exact .inr ⟨by first | (simp; done) | (simp; omega), by first | (simp; done) | (simp; omega)⟩ | exact .inl (by kernel_rfl) | refine ⟨?_, ?_⟩ | fail)
              refine runs_region ?_
              refine rl0 (gn rfl) rfl rfl (step_mv rfl rfl) trivial ?_
              refine rl0 (gn rfl) rfl rfl (step_add rfl (ev_mk rfl) (ev_mk rfl) (w64 (by omega))) trivial ?_
              refine rl0 (gn rfl) rfl rfl (step_as rfl rfl) trivial ?_
              refine runsL_nil ?_
              have hq0_ : (allR (n + 10) i) ++ [[V.ref ((n + 10) + i) 0]] = (allR (n + 10) (i + 1)) := by exact allR_s _ _
              have hq1_ : (if (at' l (i : Int)) < (loF l i) then (at' l (i : Int)) else (loF l i)) = loF l (i + 1) := by rfl
              have hq2_ : (if (at' l (i : Int)) > (hiF l i) then (at' l (i : Int)) else (hiF l i)) = hiF l (i + 1) := by rfl
              have hq3_ : ((i : Int) + 1) = ((i + 1) : Int) := by omega
              refine ⟨_, _, ?_, sle ?_ (Nat.le_refl _), (i + 1), (upF (kL l) i (upd1 h i i) i), _, _, rfl, rfl, by omega, (fun k_ hk_ => by repeat (first | exact hf0 k_ hk_ | refine (hfz1 _ (by first | assumption | omega)).trans ?_ | refine uN (by first | assumption | omega) ?_ | fail)), by first | ((repeat (first | exact uE | assumption | refine uN (by omega) ?_ | refine (hfz1 _ (by first | assumption | omega)).trans ?_ | fail)); done) | exact tl_eq (by repeat (first | exact uE | assumption | refine uN (by omega) ?_ | refine (hfz1 _ (by first | assumption | omega)).trans ?_ | fail)) (by first | rfl | (simp [bytesV, beB_len]; done) | (simp [bytesV, beB_len]; omega) | omega) | (rw [← hq0_]; (repeat (first | exact uE | assumption | refine uN (by omega) ?_ | refine (hfz1 _ (by first | assumption | omega)).trans ?_ | fail)); done) | (rw [← hq1_]; (repeat (first | exact uE | assumption | refine uN (by omega) ?_ | refine (hfz1 _ (by first | assumption | omega)).trans ?_ | fail)); done) | (rw [← hq2_]; (repeat (first | exact uE | assumption | refine uN (by omega) ?_ | refine (hfz1 _ (by first | assumption | omega)).trans ?_ | fail)); done) | (rw [← hq3_]; (repeat (first | exact uE | assumption | refine uN (by omega) ?_ | refine (hfz1 _ (by first | assumption | omega)).trans ?_ | fail)); done) | (rw [← hq0_, ← hq1_, ← hq2_, ← hq3_]; (repeat (first | exact uE | assumption | refine uN (by omega) ?_ | refine (hfz1 _ (by first | assumption | omega)).trans ?_ | fail)); done), by first | ((repeat (first | exact uE | assumption | refine uN (by omega) ?_ | refine (hfz1 _ (by first | assumption | omega)).trans ?_ | fail)); done) | exact tl_eq (by repeat (first | exact uE | assumption | refine uN (by omega) ?_ | refine (hfz1 _ (by first | assumption | omega)).trans ?_ | fail)) (by first | rfl | (simp [bytesV, beB_len]; done) | (simp [bytesV, beB_len]; omega) | omega) | (rw [← hq0_]; (repeat (first | exact uE | assumption | refine uN (by omega) ?_ | refine (hfz1 _ (by first | assumption | omega)).trans ?_ | fail)); done) | (rw [← hq1_]; (repeat (first | exact uE | assumption | refine uN (by omega) ?_ | refine (hfz1 _ (by first | assumption | omega)).trans ?_ | fail)); done) | (rw [← hq2_]; (repeat (first | exact uE | assumption | refine uN (by omega) ?_ | refine (hfz1 _ (by first | assumption | omega)).trans ?_ | fail)); done) | (rw [← hq3_]; (repeat (first | exact uE | assumption | refine uN (by omega) ?_ | refine (hfz1 _ (by first | assumption | omega)).trans ?_ | fail)); done) | (rw [← hq0_, ← hq1_, ← hq2_, ← hq3_]; (repeat (first | exact uE | assumption | refine uN (by omega) ?_ | refine (hfz1 _ (by first | assumption | omega)).trans ?_ | fail)); done), by first | ((repeat (first | exact uE | assumption | refine uN (by omega) ?_ | refine (hfz1 _ (by first | assumption | omega)).trans ?_ | fail)); done) | exact tl_eq (by repeat (first | exact uE | assumption | refine uN (by omega) ?_ | refine (hfz1 _ (by first | assumption | omega)).trans ?_ | fail)) (by first | rfl | (simp [bytesV, beB_len]; done) | (simp [bytesV, beB_len]; omega) | omega) | (rw [← hq0_]; (repeat (first | exact uE | assumption | refine uN (by omega) ?_ | refine (hfz1 _ (by first | assumption | omega)).trans ?_ | fail)); done) | (rw [← hq1_]; (repeat (first | exact uE | assumption | refine uN (by omega) ?_ | refine (hfz1 _ (by first | assumption | omega)).trans ?_ | fail)); done) | (rw [← hq2_]; (repeat (first | exact uE | assumption | refine uN (by omega) ?_ | refine (hfz1 _ (by first | assumption | omega)).trans ?_ | fail)); done) | (rw [← hq3_]; (repeat (first | exact uE | assumption | refine uN (by omega) ?_ | refine (hfz1 _ (by first | assumption | omega)).trans ?_ | fail)); done) | (rw [← hq0_, ← hq1_, ← hq2_, ← hq3_]; (repeat (first | exact uE | assumption | refine uN (by omega) ?_ | refine (hfz1 _ (by first | assumption | omega)).trans ?_ | fail)); done), (by omega), hF0_1.put, (fun a_ ha_ => by repeat (first | exact hfam1 a_ ha_ | refine uN (by omega) ?_ | refine (hfz1 _ (by first | assumption | omega)).trans ?_ | fail)), (fun a_ h1_ h2_ => by repeat (first | exact hF0_3 a_ (by omega) h2_ | refine uN (by omega) ?_ | refine (hfz1 _ (by first | assumption | omega)).trans ?_ | fail)), (rng_s hF0_4 hlo_ hhi_)⟩
              · omega
              · (repeat' (first | exact trivial | refine ⟨⟨_, rfl, ?_⟩, ?_⟩ | fail)); all_goals (repeat' (first | exact VLe.refl _ | exact VLe.own_sl _ _ _ | exact VLe.fl_sl _ _ | exact VLe.nil_sl _ | exact VLe.nil_fl _ | exact VLes.refl _ | exact .nil | refine VLe.tup ?_ | refine VLe.agg ?_ | refine .cons ?_ ?_ | (rw [Int.natCast_add]; exact VLe.refl _) | exact vle_int (by omega) | exact vle_bool (by first | rfl | assumption | (simp_all; done) | fail) | (rw [← hq0_]; exact VLe.refl _) | (rw [hq0_]; exact VLe.refl _) | (rw [← hq1_]; exact VLe.refl _) | (rw [hq1_]; exact VLe.refl _) | (rw [← hq2_]; exact VLe.refl _) | (rw [hq2_]; exact VLe.refl _) | (rw [← hq3_]; exact VLe.refl _) | (rw [hq3_]; exact VLe.refl _) | fail))
        · skip
          refine runsL_nil ?_
          refine runs_cond false (ev_mk rfl) (fun h_ => nomatch h_) (fun _ => ?_)
          refine runs_exit ?_
          refine runs_seq ?_
          obtain rfl : i = l.length := by omega
          have hl0_ : 0 < l.length := by omega
          obtain ⟨hqi_, hqn_⟩ := idx_q ha.1 hl0_
          have hbd_ := loF_ge hF0_4 hl0_
          obtain ⟨j_, hj_, hja_⟩ := hF0_1.in hqn_
          have hal_ := hF0_1.ch (x := (loF l l.length - 1)) hj_ hja_
          refine runs_region ?_
          refine rl0 (gn rfl) rfl rfl (step_mv rfl rfl) trivial ?_
          refine rl0 (gn rfl) rfl rfl (step_conv_id rfl rfl Try.underlying5 Try.underlying3 (w64 (by omega))) trivial ?_
          refine rl0 (gn rfl) rfl rfl (step_mv rfl rfl) trivial ?_
          refine rl0 (gn rfl) rfl rfl (step_len (m := l.length) rfl rfl (ev_mk rfl) (.inl ⟨⟨_, Try.underlying44⟩, .inl ⟨_, _, .inl rfl, List.length_map _⟩⟩)) trivial ?_
          refine rl0 (gn rfl) rfl rfl (step_remw (r := (((ax.toNat % l.length) : Nat) : Int)) rfl (ev_mk rfl) (ev_mk rfl) (by omega) hqi_) trivial ?_
          refine rl0 (gn rfl) rfl rfl (step_as rfl rfl) trivial ?_
          refine runsL_nil ?_
          refine runs_seq ?_
          refine runs_region ?_
          refine rl0 (gn rfl) rfl rfl (step_mv rfl rfl) trivial ?_
          refine rl0 (gn rfl) rfl rfl (step_add rfl (ev_mk rfl) (ev_mk rfl) (w64 (by omega))) trivial ?_
          refine rl0 (gn rfl) rfl rfl (step_as rfl rfl) trivial ?_
          refine runsL_nil ?_
          refine runs_seq ?_
          refine runs_seq ?_
          refine runs_region ?_
          refine rl0 (gn rfl) rfl rfl (step_mv rfl rfl) trivial ?_
          refine runsL_nil ?_
          refine runs_cond true (ev_mk rfl) (fun _ => ?_) (fun h_ => nomatch h_)
          refine runs_region ?_
          refine rl0 (gn rfl) rfl rfl (step_mv rfl rfl) trivial ?_
          refine rl0 (gn rfl) rfl rfl (step_sub rfl (ev_mk rfl) (ev_mk rfl) (w64 (by omega))) trivial ?_
          refine rl0 (gn rfl) rfl rfl (step_as rfl rfl) trivial ?_
          refine runsL_nil ?_
          refine runs_seq ?_
          refine runs_seq ?_
          refine runs_region ?_
          refine rl0 (gn rfl) rfl rfl (step_mv rfl rfl) trivial ?_
          refine rl0 (gn rfl) rfl rfl (step_mv rfl rfl) trivial ?_
          refine rl0 (gn rfl) rfl rfl (step_mv rfl rfl) trivial ?_
          refine' rl0 (gn rfl) rfl rfl (step_index (r := [.ref (n + 10 + (ax.toNat % l.length)) 0]) rfl (ev_mk rfl) (.inr (.inr ⟨_, rfl⟩)) (ev_mk rfl) Try.underlying28 F.sz34 (by omega) ?hr) trivial ?_
          case hr => exact allR_at hqn_
          refine rl0 (gn rfl) rfl rfl (step_load_ro rfl (ev_mk rfl) F.one34 rfl) trivial ?_
          refine rl0 (gn rfl) rfl rfl (step_mv rfl rfl) trivial ?_
          refine rl_fam (gn rfl) rfl rfl (step_callc rfl Try.func14 rfl rfl rfl (change_a (kL l) (kgF (kL l) (ax.toNat % l.length) (loF l l.length - 1)) h (n + 10) (n + 0) (n + 1) l.length l.length l.length l.length j_ (ax.toNat % l.length) hja_ hj_ (Nat.le_refl _) (by omega) hF0_1.inj hF0_1.lt (fun v_ h_ => (kgF_o (by rw [← hja_]; exact h_)).symm) (by omega) (by omega) (by omega)) (by repeat (first | exact .nil | refine .cons ?_ ?_ | exact VLe.refl _ | exact vle_int (by omega) | exact vle_int hki_.symm | exact vle_int (kgF_c _ _ _) | exact vle_int (kgF_c _ _ _).symm | exact VLe.own_sl _ _ _ | exact VLe.fl_sl _ _ | exact VLe.nil_sl _ | exact VLe.nil_fl _ | refine VLe.agg ?_))) ⟨by repeat (first | exact uE | refine uN (by omega) ?_ | assumption | exact hd _ (by omega) | exact hd0 _ (by omega) | fail), by repeat (first | exact uE | refine uN (by omega) ?_ | assumption | exact hd _ (by omega) | exact hd0 _ (by omega) | fail), fam_ok (fun a_ ha_ => by repeat (first | exact hF0_2 a_ ha_ | refine uN (by omega) ?_ | fail))⟩ (by repeat (first | exact trivial | refine ⟨by omega, ?_⟩)) (by omega) (fun bz2 hfam2 hfz2 => ?_)
          simp only [upds] at hfz2
          refine rl0 (gn rfl) rfl rfl (step_unOp (c := .bool false) rfl (ev_mk rfl) (fun _ => rfl)) trivial ?_
          refine runsL_nil ?_
          refine runs_cond false (ev_mk rfl) (fun h_ => nomatch h_) (fun _ => ?_)
          refine runs_skip ?_
          refine runs_seq ?_
          refine runs_seq ?_
          refine runs_region ?_
          refine rl0 (gn rfl) rfl rfl (step_as rfl rfl) trivial ?_
          refine runsL_nil ?_
          refine runs_block ?_
          have hs0_ : 0 = (0 : Int) := by first | rfl | omega
          refine runs_loop (fun (ri_ : Nat) (st_ : Go.Vm.S) => ∃ (z : Nat) (m1 : Nat) (b1 : Nat → Box), (st_ = ⟨mk [(0, .sl 1 (l.map iR)), (2, .sc (.bool true)), (6, .sc (.bool false)), (7, .ref (n + 0) 0), (8, .own 1 (allR (n + 10) l.length) (n + 2)), (9, .sl 2 ((lsK (kgF (kL l) (ax.toNat % l.length) (loF l l.length - 1)) z).map itR)), (13, .sc (.int .i64 (((ax.toNat % l.length) : Nat) : Int))), (14, .sc (.int .i64 ((loF l l.length) - 1))), (15, .sc (.int .i64 (z : Int)))], m1, b1⟩) ∧ (ri_ = 1 + (l.length - z)) ∧ (m0 + 0 ≤ m1) ∧ (∀ k_, k_ < n → b1 k_ = bx k_) ∧ (b1 (n + 0) = .cells [.gsl (n + 1) l.length 0 l.length 1, .sc (.func (.func 8) #[] #[]), .sc (.int .i64 (l.length : Int))]) ∧ (b1 (n + 1) = .gcells l.length 1 (rowsH (n + 10) (chF (kgF (kL l) (ax.toNat % l.length) (loF l l.length - 1)) h l.length j_) l.length)) ∧ (b1 (n + 2) = .tail (allR (n + 10) l.length).length) ∧ (z ≤ l.length) ∧ (∀ a, a < l.length → b1 (n + 10 + a) = .cells (itC (kgF (kL l) (ax.toNat % l.length) (loF l l.length - 1)) (chF (kgF (kL l) (ax.toNat % l.length) (loF l l.length - 1)) h l.length j_) l.length a))) (1 + (l.length - 0)) ⟨_, sle ?_ (Nat.le_refl _), 0, _, _, rfl, rfl, ?_⟩ ?_
          · (repeat' (first | exact trivial | refine ⟨⟨_, rfl, ?_⟩, ?_⟩ | fail)); all_goals (repeat' (first | exact VLe.refl _ | exact VLe.own_sl _ _ _ | exact VLe.fl_sl _ _ | exact VLe.nil_sl _ | exact VLe.nil_fl _ | exact VLes.refl _ | exact .nil | refine VLe.tup ?_ | refine VLe.agg ?_ | refine .cons ?_ ?_ | (rw [Int.natCast_add]; exact VLe.refl _) | exact vle_int (by omega) | exact vle_bool (by first | rfl | assumption | (simp_all; done) | fail) | (rw [← hs0_]; exact VLe.refl _) | (rw [hs0_]; exact VLe.refl _) | fail))
          · exact ⟨by omega, (fun k_ hk_ => by repeat (first | exact rfl | refine uN (by omega) ?_ | assumption | exact hf0 _ (by omega) | refine (hfz2 _ (by first | assumption | omega)).trans ?_ | fail)), by first | ((repeat (first | exact uE | assumption | refine uN (by omega) ?_ | refine (hfz2 _ (by first | assumption | omega)).trans ?_ | fail)); done) | exact tl_eq (by repeat (first | exact uE | assumption | refine uN (by omega) ?_ | refine (hfz2 _ (by first | assumption | omega)).trans ?_ | fail)) (by first | rfl | (simp [bytesV, beB_len]; done) | (simp [bytesV, beB_len]; omega) | omega) | (rw [← hs0_]; (repeat (first | exact uE | assumption | refine uN (by omega) ?_ | refine (hfz2 _ (by first | assumption | omega)).trans ?_ | fail)); done), by first | ((repeat (first | exact uE | assumption | refine uN (by omega) ?_ | refine (hfz2 _ (by first | assumption | omega)).trans ?_ | fail)); done) | exact tl_eq (by repeat (first | exact uE | assumption | refine uN (by omega) ?_ | refine (hfz2 _ (by first | assumption | omega)).trans ?_ | fail)) (by first | rfl | (simp [bytesV, beB_len]; done) | (simp [bytesV, beB_len]; omega) | omega) | (rw [← hs0_]; (repeat (first | exact uE | assumption | refine uN (by omega) ?_ | refine (hfz2 _ (by first | assumption | omega)).trans ?_ | fail)); done), by first | ((repeat (first | exact uE | assumption | refine uN (by omega) ?_ | refine (hfz2 _ (by first | assumption | omega)).trans ?_ | fail)); done) | exact tl_eq (by repeat (first | exact uE | assumption | refine uN (by omega) ?_ | refine (hfz2 _ (by first | assumption | omega)).trans ?_ | fail)) (by first | rfl | (simp [bytesV, beB_len]; done) | (simp [bytesV, beB_len]; omega) | omega) | (rw [← hs0_]; (repeat (first | exact uE | assumption | refine uN (by omega) ?_ | refine (hfz2 _ (by first | assumption | omega)).trans ?_ | fail)); done), (by omega), (fun a_ ha_ => by repeat (first | exact hfam2 a_ ha_ | refine uN (by omega) ?_ | refine (hfz2 _ (by first | assumption | omega)).trans ?_ | fail))⟩
          · rintro _ _ ⟨z, m1, b1, rfl, rfl, hm1, hf1, hB1_0, hB1_1, hB1_2, hF1_0, hF1_1⟩
            refine runs_know (fun hd1 => ?_)
            refine runs_bump 20 ?_
            simp only at hd1
            refine runs_seq ?_
            refine runs_seq ?_
            refine runs_region ?_
            refine rl0 (gn rfl) rfl rfl (step_mv rfl rfl) trivial ?_
            refine rl0 (gn rfl) rfl rfl (step_mv rfl rfl) trivial ?_
            refine rl0 (gn rfl) rfl rfl (step_len (m := l.length) rfl rfl (ev_mk rfl) (.inl ⟨⟨_, Try.underlying44⟩, .inl ⟨_, _, .inl rfl, List.length_map _⟩⟩)) trivial ?_
            refine rl_lss (gn rfl) rfl rfl rfl rfl rfl (fun h4 => ?_) (fun h4 => ?_)
            · skip
              refine runsL_nil ?_
              refine runs_cond true (ev_mk rfl) (fun _ => ?_) (fun h_ => nomatch h_)
              refine runs_skip ?_
              refine runs_seq ?_
              refine runs_block ?_
              refine runs_seq ?_
              refine runs_region ?_
              refine rl0 (gn rfl) rfl rfl (step_mv rfl rfl) trivial ?_
              refine rl0 (gn rfl) rfl rfl (step_mv rfl rfl) trivial ?_
              refine' rl0 (gn rfl) rfl rfl (step_index rfl (ev_mk rfl) (.inl rfl) (ev_mk rfl) Try.underlying44 F.sz3 (by omega) ?hr) trivial ?_
              case hr => exact map_at _ _ _ (by omega) (by omega)
              refine rl0 (gn rfl) rfl rfl (step_load_ro rfl (ev_mk rfl) F.one3 rfl) trivial ?_
              refine rl0 (gn rfl) rfl rfl (step_as rfl rfl) trivial ?_
              refine runsL_nil ?_
              refine runs_seq ?_
              refine runs_seq ?_
              refine runs_region ?_
              refine rl0 (gn rfl) rfl rfl (step_mv rfl rfl) trivial ?_
              refine rl0 (gn rfl) rfl rfl (step_mv rfl rfl) trivial ?_
              refine rl_eql (gn rfl) rfl rfl rfl rfl rfl (fun h5 => ?_) (fun h5 => ?_)
              · skip
                have hki_ : (kgF (kL l) (ax.toNat % l.length) (loF l l.length - 1)) z = (loF l l.length - 1) := (by rw [show z = (ax.toNat % l.length) by omega]; exact kgF_c _ _ _)
                refine runsL_nil ?_
                refine runs_cond true (ev_mk rfl) (fun _ => ?_) (fun h_ => nomatch h_)
                refine runs_region ?_
                refine rl0 (gn rfl) rfl rfl (step_mv rfl rfl) trivial ?_
                refine rl0 (gn rfl) rfl rfl (step_as rfl rfl) trivial ?_
                refine runsL_nil ?_
                refine runs_region ?_
                refine rl0 (gn rfl) rfl rfl (step_mv rfl rfl) trivial ?_
                refine rl0 (gn rfl) rfl rfl (step_mv rfl rfl) trivial ?_
                refine rl0 (gn rfl) rfl rfl (step_mv rfl rfl) trivial ?_
                refine rl0 (gn rfl) rfl rfl (step_build (ss := [1, 1]) (zs := [.int .i64 0, .int .i64 0]) rfl Try.underlying33 (by kernel_rfl) F.zero33 rfl rfl rfl) trivial ?_
                refine rl0 (gn rfl) rfl rfl (step_callc rfl Try.func9 rfl rfl rfl (insert_c (lsK (kgF (kL l) (ax.toNat % l.length) (loF l l.length - 1)) z) ⟨(kgF (kL l) (ax.toNat % l.length) (loF l l.length - 1)) z, z⟩ (by rw [lsK_len]; omega)) (by repeat (first | exact .nil | refine .cons ?_ ?_ | exact VLe.refl _ | exact vle_int (by omega) | exact vle_int hki_.symm | exact vle_int (kgF_c _ _ _) | exact vle_int (kgF_c _ _ _).symm | exact VLe.own_sl _ _ _ | exact VLe.fl_sl _ _ | exact VLe.nil_sl _ | exact VLe.nil_fl _ | refine VLe.agg ?_))) trivial ?_
                refine rl0 (gn rfl) rfl rfl (step_as rfl rfl) trivial ?_
                refine runsL_nil ?_
                refine runs_region ?_
                refine rl0 (gn rfl) rfl rfl (step_mv rfl rfl) trivial ?_
                refine rl0 (gn rfl) rfl rfl (step_add rfl (ev_mk rfl) (ev_mk rfl) (w64 (by omega))) trivial ?_
                refine rl0 (gn rfl) rfl rfl (step_as rfl rfl) trivial ?_
                refine runsL_nil ?_
                have hq0_ : ((insR (lsK (kgF (kL l) (ax.toNat % l.length) (loF l l.length - 1)) z) ⟨(kgF (kL l) (ax.toNat % l.length) (loF l l.length - 1)) z, z⟩).map itR) = ((lsK (kgF (kL l) (ax.toNat % l.length) (loF l l.length - 1)) (z + 1)).map itR) := by first | rfl | omega
                have hq1_ : ((z : Int) + 1) = ((z + 1) : Int) := by first | rfl | omega
                refine ⟨_, _, ?_, sle ?_ (Nat.le_refl _), (z + 1), _, _, rfl, rfl, by omega, (fun k_ hk_ => by repeat (first | exact hf1 k_ hk_ | exact hf0 k_ hk_ | refine uN (by first | assumption | omega) ?_ | fail)), by first | ((repeat (first | exact uE | assumption | refine uN (by omega) ?_ | fail)); done) | exact tl_eq (by repeat (first | exact uE | assumption | refine uN (by omega) ?_ | fail)) (by first | rfl | (simp [bytesV, beB_len]; done) | (simp [bytesV, beB_len]; omega) | omega) | (rw [← hq0_]; (repeat (first | exact uE | assumption | refine uN (by omega) ?_ | fail)); done) | (rw [← hq1_]; (repeat (first | exact uE | assumption | refine uN (by omega) ?_ | fail)); done) | (rw [← hq0_, ← hq1_]; (repeat (first | exact uE | assumption | refine uN (by omega) ?_ | fail)); done), by first | ((repeat (first | exact uE | assumption | refine uN (by omega) ?_ | fail)); done) | exact tl_eq (by repeat (first | exact uE | assumption | refine uN (by omega) ?_ | fail)) (by first | rfl | (simp [bytesV, beB_len]; done) | (simp [bytesV, beB_len]; omega) | omega) | (rw [← hq0_]; (repeat (first | exact uE | assumption | refine uN (by omega) ?_ | fail)); done) | (rw [← hq1_]; (repeat (first | exact uE | assumption | refine uN (by omega) ?_ | fail)); done) | (rw [← hq0_, ← hq1_]; (repeat (first | exact uE | assumption | refine uN (by omega) ?_ | fail)); done), by first | ((repeat (first | exact uE | assumption | refine uN (by omega) ?_ | fail)); done) | exact tl_eq (by repeat (first | exact uE | assumption | refine uN (by omega) ?_ | fail)) (by first | rfl | (simp [bytesV, beB_len]; done) | (simp [bytesV, beB_len]; omega) | omega) | (rw [← hq0_]; (repeat (first | exact uE | assumption | refine uN (by omega) ?_ | fail)); done) | (rw [← hq1_]; (repeat (first | exact uE | assumption | refine uN (by omega) ?_ | fail)); done) | (rw [← hq0_, ← hq1_]; (repeat (first | exact uE | assumption | refine uN (by omega) ?_ | fail)); done), (by omega), (fun a_ ha_ => by repeat (first | exact hF1_1 a_ ha_ | refine uN (by omega) ?_ | fail))⟩
                · omega
                · (repeat' (first | exact trivial | refine ⟨⟨_, rfl, ?_⟩, ?_⟩ | fail)); all_goals (repeat' (first | exact VLe.refl _ | exact VLe.own_sl _ _ _ | exact VLe.fl_sl _ _ | exact VLe.nil_sl _ | exact VLe.nil_fl _ | exact VLes.refl _ | exact .nil | refine VLe.tup ?_ | refine VLe.agg ?_ | refine .cons ?_ ?_ | (rw [Int.natCast_add]; exact VLe.refl _) | exact vle_int (by omega) | exact vle_bool (by first | rfl | assumption | (simp_all; done) | fail) | (rw [← hq0_]; exact VLe.refl _) | (rw [hq0_]; exact VLe.refl _) | (rw [← hq1_]; exact VLe.refl _) | (rw [hq1_]; exact VLe.refl _) | fail))
              · skip
                have hki_ : (kgF (kL l) (ax.toNat % l.length) (loF l l.length - 1)) z = at' l (z : Int) := kgF_o (by omega)
                refine runsL_nil ?_
                refine runs_cond false (ev_mk rfl) (fun h_ => nomatch h_) (fun _ => ?_)
                refine runs_skip ?_
                refine runs_region ?_
                refine rl0 (gn rfl) rfl rfl (step_mv rfl rfl) trivial ?_
                refine rl0 (gn rfl) rfl rfl (step_mv rfl rfl) trivial ?_
                refine rl0 (gn rfl) rfl rfl (step_mv rfl rfl) trivial ?_
                refine rl0 (gn rfl) rfl rfl (step_build (ss := [1, 1]) (zs := [.int .i64 0, .int .i64 0]) rfl Try.underlying33 (by kernel_rfl) F.zero33 rfl rfl rfl) trivial ?_
                refine rl0 (gn rfl) rfl rfl (step_callc rfl Try.func9 rfl rfl rfl (insert_c (lsK (kgF (kL l) (ax.toNat % l.length) (loF l l.length - 1)) z) ⟨(kgF (kL l) (ax.toNat % l.length) (loF l l.length - 1)) z, z⟩ (by rw [lsK_len]; omega)) (by repeat (first | exact .nil | refine .cons ?_ ?_ | exact VLe.refl _ | exact vle_int (by omega) | exact vle_int hki_.symm | exact vle_int (kgF_c _ _ _) | exact vle_int (kgF_c _ _ _).symm | exact VLe.own_sl _ _ _ | exact VLe.fl_sl _ _ | exact VLe.nil_sl _ | exact VLe.nil_fl _ | refine VLe.agg ?_))) trivial ?_
                refine rl0 (gn rfl) rfl rfl (step_as rfl rfl) trivial ?_
                refine runsL_nil ?_
                refine runs_region ?_
                refine rl0 (gn rfl) rfl rfl (step_mv rfl rfl) trivial ?_
                refine rl0 (gn rfl) rfl rfl (step_add rfl (ev_mk rfl) (ev_mk rfl) (w64 (by omega))) trivial ?_
                refine rl0 (gn rfl) rfl rfl (step_as rfl rfl) trivial ?_
                refine runsL_nil ?_
                have hq0_ : ((insR (lsK (kgF (kL l) (ax.toNat % l.length) (loF l l.length - 1)) z) ⟨(kgF (kL l) (ax.toNat % l.length) (loF l l.length - 1)) z, z⟩).map itR) = ((lsK (kgF (kL l) (ax.toNat % l.length) (loF l l.length - 1)) (z + 1)).map itR) := by first | rfl | omega
                have hq1_ : ((z : Int) + 1) = ((z + 1) : Int) := by first | rfl | omega
                refine ⟨_, _, ?_, sle ?_ (Nat.le_refl _), (z + 1), _, _, rfl, rfl, by omega, (fun k_ hk_ => by repeat (first | exact hf1 k_ hk_ | exact hf0 k_ hk_ | refine uN (by first | assumption | omega) ?_ | fail)), by first | ((repeat (first | exact uE | assumption | refine uN (by omega) ?_ | fail)); done) | exact tl_eq (by repeat (first | exact uE | assumption | refine uN (by omega) ?_ | fail)) (by first | rfl | (simp [bytesV, beB_len]; done) | (simp [bytesV, beB_len]; omega) | omega) | (rw [← hq0_]; (repeat (first | exact uE | assumption | refine uN (by omega) ?_ | fail)); done) | (rw [← hq1_]; (repeat (first | exact uE | assumption | refine uN (by omega) ?_ | fail)); done) | (rw [← hq0_, ← hq1_]; (repeat (first | exact uE | assumption | refine uN (by omega) ?_ | fail)); done), by first | ((repeat (first | exact uE | assumption | refine uN (by omega) ?_ | fail)); done) | exact tl_eq (by repeat (first | exact uE | assumption | refine uN (by omega) ?_ | fail)) (by first | rfl | (simp [bytesV, beB_len]; done) | (simp [bytesV, beB_len]; omega) | omega) | (rw [← hq0_]; (repeat (first | exact uE | assumption | refine uN (by omega) ?_ | fail)); done) | (rw [← hq1_]; (repeat (first | exact uE | assumption | refine uN (by omega) ?_ | fail)); done) | (rw [← hq0_, ← hq1_]; (repeat (first | exact uE | assumption | refine uN (by omega) ?_ | fail)); done), by first | ((repeat (first | exact uE | assumption | refine uN (by omega) ?_ | fail)); done) | exact tl_eq (by repeat (first | exact uE | assumption | refine uN (by omega) ?_ | fail)) (by first | rfl | (simp [bytesV, beB_len]; done) | (simp [bytesV, beB_len]; omega) | omega) | (rw [← hq0_]; (repeat (first | exact uE | assumption | refine uN (by omega) ?_ | fail)); done) | (rw [← hq1_]; (repeat (first | exact uE | assumption | refine uN (by omega) ?_ | fail)); done) | (rw [← hq0_, ← hq1_]; (repeat (first | exact uE | assumption | refine uN (by omega) ?_ | fail)); done), (by omega), (fun a_ ha_ => by repeat (first | exact hF1_1 a_ ha_ | refine uN (by omega) ?_ | fail))⟩
                · omega
                · (repeat' (first | exact trivial | refine ⟨⟨_, rfl, ?_⟩, ?_⟩ | fail)); all_goals (repeat' (first | exact VLe.refl _ | exact VLe.own_sl _ _ _ | exact VLe.fl_sl _ _ | exact VLe.nil_sl _ | exact VLe.nil_fl _ | exact VLes.refl _ | exact .nil | refine VLe.tup ?_ | refine VLe.agg ?_ | refine .cons ?_ ?_ | (rw [Int.natCast_add]; exact VLe.refl _) | exact vle_int (by omega) | exact vle_bool (by first | rfl | assumption | (simp_all; done) | fail) | (rw [← hq0_]; exact VLe.refl _) | (rw [hq0_]; exact VLe.refl _) | (rw [← hq1_]; exact VLe.refl _) | (rw [hq1_]; exact VLe.refl _) | fail))
            · skip
              refine runsL_nil ?_
              refine runs_cond false (ev_mk rfl) (fun h_ => nomatch h_) (fun _ => ?_)
              refine runs_exit ?_
              refine runs_seq ?_
              refine runs_seq ?_
              obtain rfl : z = l.length := by omega
              have hhq_ := head_q (kf := (kgF (kL l) (ax.toNat % l.length) (loF l l.length - 1))) hqn_ (fun a_ h1_ h2_ => by rw [kgF_c, kgF_o h2_]; have := loF_le l l.length a_ h1_; omega)
              have hml0_ := lsK_len (kgF (kL l) (ax.toNat % l.length) (loF l l.length - 1)) l.length
              refine runs_region ?_
              refine rl0 (gn rfl) rfl rfl (step_mv rfl rfl) trivial ?_
              refine rl0 (gn rfl) rfl rfl (step_mv rfl rfl) trivial ?_
              refine rl0 (gy rfl rfl rfl rfl rfl rfl) rfl rfl (step_mv rfl rfl) trivial ?_
              refine' rl0 (gy rfl rfl rfl rfl rfl rfl) rfl rfl (step_index rfl (ev_mk rfl) (.inl rfl) (ev_mk rfl) Try.underlying27 F.sz33 (by omega) ?hr) trivial ?_
              case hr => exact map_at _ _ _ (by omega) (by omega)
              refine rl0 (gy rfl rfl rfl rfl rfl rfl) rfl rfl (step_fieldAddr_ro (off := 1) rfl (ev_mk rfl) Try.underlying33 rfl F.sz3 rfl rfl) trivial ?_
              refine rl0 (gy rfl rfl rfl rfl rfl rfl) rfl rfl (step_load_ro rfl (ev_mk rfl) F.one3 rfl) trivial ?_
              refine rl0 (gy rfl rfl rfl rfl rfl rfl) rfl rfl (step_mv rfl rfl) trivial ?_
              refine rl_neq (gy rfl rfl rfl rfl rfl rfl) rfl rfl rfl rfl rfl (fun h5 => ?_) (fun h5 => ?_)
              · exact False.elim (by (have q_ := congrArg (fun z_ : Nat => (z_ : Int)) hhq_; omega))
              refine rl0 (gn rfl) rfl rfl (step_pick rfl (ev_mk rfl) (ev_mk rfl)) trivial ?_
              refine rl0 (gn rfl) rfl rfl (step_mv rfl rfl) trivial ?_
              refine rl0 (gy rfl rfl rfl rfl rfl rfl) rfl rfl (step_mv rfl rfl) trivial ?_
              refine rl0 (gy rfl rfl rfl rfl rfl rfl) rfl rfl (step_unOp (c := .bool false) rfl (ev_mk rfl) (fun _ => rfl)) trivial ?_
              refine rl0 (gy rfl rfl rfl rfl rfl rfl) rfl rfl (step_mv rfl rfl) trivial ?_
              refine rlk rfl rfl rfl rfl rfl (ngb rfl rfl) rfl rfl ?_
              refine rlk rfl rfl rfl rfl rfl (ngb rfl rfl) rfl rfl ?_
              refine rlk rfl rfl rfl rfl rfl (ngb rfl rfl) rfl rfl ?_
              refine rlk rfl rfl rfl rfl rfl (ngb rfl rfl) rfl rfl ?_
              refine rlk rfl rfl rfl rfl rfl (ngb rfl rfl) rfl rfl ?_
              refine rlk rfl rfl rfl rfl rfl (ngb rfl rfl) rfl rfl ?_
              refine rlk rfl rfl rfl rfl rfl (ngb rfl rfl) rfl rfl ?_
              refine rlk rfl rfl rfl rfl rfl (ngb rfl rfl) rfl rfl ?_
              refine rlk rfl rfl rfl rfl rfl (ngb rfl rfl) rfl rfl ?_
              refine rl0 (gy rfl rfl rfl rfl rfl rfl) rfl rfl (step_pick rfl (ev_mk rfl) (ev_mk rfl)) trivial ?_
              refine rl0 (gn rfl) rfl rfl (step_pick rfl (ev_mk rfl) (ev_mk rfl)) trivial ?_
              refine runsL_nil ?_
              refine runs_cond false (ev_mk rfl) (fun h_ => nomatch h_) (fun _ => ?_)
              refine runs_skip ?_
              refine runs_seq ?_
              refine runs_seq ?_
              refine runs_region ?_
              refine rl0 (gn rfl) rfl rfl (step_as rfl rfl) trivial ?_
              refine runsL_nil ?_
              refine runs_block ?_
              have hs0_ : 0 = (0 : Int) := by first | rfl | omega
              have hs1_ : l.length = l.length - 0 := by first | rfl | omega
              refine runs_loop (fun (ri_ : Nat) (st_ : Go.Vm.S) => ∃ (y : Nat) (g : Nat → Nat) (m2 : Nat) (b2 : Nat → Box), (st_ = ⟨mk [(6, .sc (.bool false)), (7, .ref (n + 0) 0), (8, .own 1 (allR (n + 10) l.length) (n + 2)), (9, .sl 2 ((lsK (kgF (kL l) (ax.toNat % l.length) (loF l l.length - 1)) l.length).map itR)), (17, .sc (.int .i64 (y : Int)))], m2, b2⟩) ∧ (ri_ = 1 + (l.length - y)) ∧ (m1 + 0 ≤ m2) ∧ (∀ k_, k_ < n → b2 k_ = bx k_) ∧ (b2 (n + 0) = .cells [.gsl (n + 1) l.length 0 (l.length - y) 1, .sc (.func (.func 8) #[] #[]), .sc (.int .i64 (l.length : Int))]) ∧ (b2 (n + 1) = .gcells l.length 1 (rowsH (n + 10) g l.length)) ∧ (b2 (n + 2) = .tail (allR (n + 10) l.length).length) ∧ (y ≤ l.length) ∧ (Hst (kgF (kL l) (ax.toNat % l.length) (loF l l.length - 1)) g (l.length - y) l.length l.length ((lsK (kgF (kL l) (ax.toNat % l.length) (loF l l.length - 1)) l.length).drop y)) ∧ (∀ a, a < l.length → b2 (n + 10 + a) = .cells (itC (kgF (kL l) (ax.toNat % l.length) (loF l l.length - 1)) g (l.length - y) a))) (1 + (l.length - 0)) ⟨_, sle ?_ (Nat.le_refl _), 0, (chF (kgF (kL l) (ax.toNat % l.length) (loF l l.length - 1)) h l.length j_), _, _, rfl, rfl, ?_⟩ ?_
              · (repeat' (first | exact trivial | refine ⟨⟨_, rfl, ?_⟩, ?_⟩ | fail)); all_goals (repeat' (first | exact VLe.refl _ | exact VLe.own_sl _ _ _ | exact VLe.fl_sl _ _ | exact VLe.nil_sl _ | exact VLe.nil_fl _ | exact VLes.refl _ | exact .nil | refine VLe.tup ?_ | refine VLe.agg ?_ | refine .cons ?_ ?_ | (rw [Int.natCast_add]; exact VLe.refl _) | exact vle_int (by omega) | exact vle_bool (by first | rfl | assumption | (simp_all; done) | fail) | (rw [← hs0_]; exact VLe.refl _) | (rw [hs0_]; exact VLe.refl _) | (rw [← hs1_]; exact VLe.refl _) | (rw [hs1_]; exact VLe.refl _) | fail))
              · exact ⟨by omega, (fun k_ hk_ => by repeat (first | exact rfl | refine uN (by omega) ?_ | assumption | exact hf0 _ (by omega) | exact hf1 _ (by omega) | fail)), by first | ((repeat (first | exact uE | assumption | refine uN (by omega) ?_ | fail)); done) | exact tl_eq (by repeat (first | exact uE | assumption | refine uN (by omega) ?_ | fail)) (by first | rfl | (simp [bytesV, beB_len]; done) | (simp [bytesV, beB_len]; omega) | omega) | (rw [← hs0_]; (repeat (first | exact uE | assumption | refine uN (by omega) ?_ | fail)); done) | (rw [← hs1_]; (repeat (first | exact uE | assumption | refine uN (by omega) ?_ | fail)); done) | (rw [← hs0_, ← hs1_]; (repeat (first | exact uE | assumption | refine uN (by omega) ?_ | fail)); done), by first | ((repeat (first | exact uE | assumption | refine uN (by omega) ?_ | fail)); done) | exact tl_eq (by repeat (first | exact uE | assumption | refine uN (by omega) ?_ | fail)) (by first | rfl | (simp [bytesV, beB_len]; done) | (simp [bytesV, beB_len]; omega) | omega) | (rw [← hs0_]; (repeat (first | exact uE | assumption | refine uN (by omega) ?_ | fail)); done) | (rw [← hs1_]; (repeat (first | exact uE | assumption | refine uN (by omega) ?_ | fail)); done) | (rw [← hs0_, ← hs1_]; (repeat (first | exact uE | assumption | refine uN (by omega) ?_ | fail)); done), by first | ((repeat (first | exact uE | assumption | refine uN (by omega) ?_ | fail)); done) | exact tl_eq (by repeat (first | exact uE | assumption | refine uN (by omega) ?_ | fail)) (by first | rfl | (simp [bytesV, beB_len]; done) | (simp [bytesV, beB_len]; omega) | omega) | (rw [← hs0_]; (repeat (first | exact uE | assumption | refine uN (by omega) ?_ | fail)); done) | (rw [← hs1_]; (repeat (first | exact uE | assumption | refine uN (by omega) ?_ | fail)); done) | (rw [← hs0_, ← hs1_]; (repeat (first | exact uE | assumption | refine uN (by omega) ?_ | fail)); done), (by omega), hal_, (fun a_ ha_ => by repeat (first | exact hF1_1 a_ ha_ | refine uN (by omega) ?_ | fail))⟩
              · rintro _ _ ⟨y, g, m2, b2, rfl, rfl, hm2, hf2, hB2_0, hB2_1, hB2_2, hF2_0, hF2_1, hF2_2⟩
                refine runs_know (fun hd2 => ?_)
                refine runs_bump 20 ?_
                simp only at hd2
                refine runs_seq ?_
                refine runs_seq ?_
                refine runs_region ?_
                refine rl0 (gn rfl) rfl rfl (step_mv rfl rfl) trivial ?_
                refine rl0 (gn rfl) rfl rfl (step_mv rfl rfl) trivial ?_
                refine rl0 (gn rfl) rfl rfl (step_len (m := l.length) rfl rfl (ev_mk rfl) (.inl ⟨⟨_, Try.underlying27⟩, .inl ⟨_, _, .inl rfl, (by rw [List.length_map, lsK_len])⟩⟩)) trivial ?_
                refine rl_lss (gn rfl) rfl rfl rfl rfl rfl (fun h6 => ?_) (fun h6 => ?_)
                · skip
                  refine runsL_nil ?_
                  refine runs_cond true (ev_mk rfl) (fun _ => ?_) (fun h_ => nomatch h_)
                  refine runs_skip ?_
                  refine runs_seq ?_
                  refine runs_block ?_
                  refine runs_seq ?_
                  refine runs_region ?_
                  refine rl0 (gn rfl) rfl rfl (step_mv rfl rfl) trivial ?_
                  refine rl_fam (gn rfl) rfl rfl (step_callc rfl Try.func11 rfl rfl rfl (pop_c (kgF (kL l) (ax.toNat % l.length) (loF l l.length - 1)) g (n + 10) (n + 0) (n + 1) l.length (l.length - y) l.length l.length hF2_1.le (by omega) hF2_1.inj hF2_1.lt (by omega) (by omega) (by omega)) (by repeat (first | exact .nil | refine .cons ?_ ?_ | exact VLe.refl _ | exact vle_int (by omega) | exact vle_int hki_.symm | exact vle_int (kgF_c _ _ _) | exact vle_int (kgF_c _ _ _).symm | exact VLe.own_sl _ _ _ | exact VLe.fl_sl _ _ | exact VLe.nil_sl _ | exact VLe.nil_fl _ | refine VLe.agg ?_))) ⟨by repeat (first | exact uE | refine uN (by omega) ?_ | assumption | exact hd _ (by omega) | exact hd0 _ (by omega) | exact hd1 _ (by omega) | exact hd2 _ (by omega) | fail), by repeat (first | exact uE | refine uN (by omega) ?_ | assumption | exact hd _ (by omega) | exact hd0 _ (by omega) | exact hd1 _ (by omega) | exact hd2 _ (by omega) | fail), fam_ok (fun a_ ha_ => by repeat (first | exact hF2_2 a_ ha_ | refine uN (by omega) ?_ | fail))⟩ (by repeat (first | exact trivial | refine ⟨by omega, ?_⟩)) (by omega) (fun bz3 hfam3 hfz3 => ?_)
                  simp only [upds] at hfz3
                  have hst_ := hF2_1.popi (by omega)
                  have hgn_ := gone hst_ (show y < l.length by omega)
                  have hml_ := lsK_len (kgF (kL l) (ax.toNat % l.length) (loF l l.length - 1)) l.length
                  obtain ⟨w_, hw_, hwe_⟩ := lsK_mem.1 (at_mem (m := (lsK (kgF (kL l) (ax.toNat % l.length) (loF l l.length - 1)) l.length)) (i := y) (by omega))
                  have hwn_ : (at' (lsK (kgF (kL l) (ax.toNat % l.length) (loF l l.length - 1)) l.length) (y : Int)).n < l.length := by rw [hwe_]; exact hw_
                  refine rl0 (gn rfl) rfl rfl (step_mv rfl rfl) trivial ?_
                  refine rl0 (gn rfl) rfl rfl (step_extract rfl (ev_mk rfl) rfl) trivial ?_
                  refine rl0 (gn rfl) rfl rfl (step_extract rfl (ev_mk rfl) rfl) trivial ?_
                  refine rl_know (d := 149) (c := true) rfl (decide_eq_true (by omega)) ?_
                  refine rl0 (gn rfl) rfl rfl (step_as rfl rfl) trivial ?_
                  refine rl0 (gn rfl) rfl rfl (step_as rfl rfl) trivial ?_
                  refine runsL_nil ?_
                  refine runs_seq ?_
                  refine runs_region ?_
                  refine rl0 (gn rfl) rfl rfl (step_mv rfl rfl) trivial ?_
                  refine rl0 (gn rfl) rfl rfl (step_unOp (c := .bool false) rfl (ev_mk rfl) (fun _ => rfl)) trivial ?_
                  refine rl0 (gn rfl) rfl rfl (step_mv rfl rfl) trivial ?_
                  refine rl0 (gy rfl rfl rfl rfl rfl rfl) rfl rfl (step_mv rfl rfl) trivial ?_
                  refine rl0 (gy rfl rfl rfl rfl rfl rfl) rfl rfl (step_mv rfl rfl) trivial ?_
                  refine rl0 (gy rfl rfl rfl rfl rfl rfl) rfl rfl (step_mv rfl rfl) trivial ?_
                  refine' rl0 (gy rfl rfl rfl rfl rfl rfl) rfl rfl (step_index rfl (ev_mk rfl) (.inl rfl) (ev_mk rfl) Try.underlying27 F.sz33 (by omega) ?hr) trivial ?_
                  case hr => exact map_at _ _ _ (by omega) (by omega)
                  refine rl0 (gy rfl rfl rfl rfl rfl rfl) rfl rfl (step_fieldAddr_ro (off := 0) rfl (ev_mk rfl) Try.underlying33 rfl F.sz3 rfl rfl) trivial ?_
                  refine rl0 (gy rfl rfl rfl rfl rfl rfl) rfl rfl (step_load_ro rfl (ev_mk rfl) F.one3 rfl) trivial ?_
                  refine rl_neq (gy rfl rfl rfl rfl rfl rfl) rfl rfl rfl rfl rfl (fun h7 => ?_) (fun h7 => ?_)
                  · exact False.elim (by (have q_ := (hF2_1.top (by omega)).1; rw [at_drop] at q_; exact absurd q_ h7))
                  refine rl0 (gn rfl) rfl rfl (step_pick rfl (ev_mk rfl) (ev_mk rfl)) trivial ?_
                  refine rl0 (gn rfl) rfl rfl (step_mv rfl rfl) trivial ?_
                  refine rl0 (gy rfl rfl rfl rfl rfl rfl) rfl rfl (step_mv rfl rfl) trivial ?_
                  refine rl0 (gy rfl rfl rfl rfl rfl rfl) rfl rfl (step_mv rfl rfl) trivial ?_
                  refine rl0 (gy rfl rfl rfl rfl rfl rfl) rfl rfl (step_mv rfl rfl) trivial ?_
                  refine' rl0 (gy rfl rfl rfl rfl rfl rfl) rfl rfl (step_index rfl (ev_mk rfl) (.inl rfl) (ev_mk rfl) Try.underlying27 F.sz33 (by omega) ?hr) trivial ?_
                  case hr => exact map_at _ _ _ (by omega) (by omega)
                  refine rl0 (gy rfl rfl rfl rfl rfl rfl) rfl rfl (step_fieldAddr_ro (off := 1) rfl (ev_mk rfl) Try.underlying33 rfl F.sz3 rfl rfl) trivial ?_
                  refine rl0 (gy rfl rfl rfl rfl rfl rfl) rfl rfl (step_load_ro rfl (ev_mk rfl) F.one3 rfl) trivial ?_
                  refine' rl0 (gy rfl rfl rfl rfl rfl rfl) rfl rfl (step_index (r := [.ref (n + 10 + (at' (lsK (kgF (kL l) (ax.toNat % l.length) (loF l l.length - 1)) l.length) (y : Int)).n) 0]) rfl (ev_mk rfl) (.inr (.inr ⟨_, rfl⟩)) (ev_mk rfl) Try.underlying28 F.sz34 (by omega) ?hr) trivial ?_
                  case hr => exact allR_at hwn_
                  refine rl0 (gy rfl rfl rfl rfl rfl rfl) rfl rfl (step_load_ro rfl (ev_mk rfl) F.one34 rfl) trivial ?_
                  have hxt_ : bz3 (n + 10 + (at' (lsK (kgF (kL l) (ax.toNat % l.length) (loF l l.length - 1)) l.length) (y : Int)).n) = .cells [.sc (.int .i64 ((kgF (kL l) (ax.toNat % l.length) (loF l l.length - 1)) ((at' (lsK (kgF (kL l) (ax.toNat % l.length) (loF l l.length - 1)) l.length) (y : Int)).n))), .sc (.int .i64 (((at' (lsK (kgF (kL l) (ax.toNat % l.length) (loF l l.length - 1)) l.length) (y : Int)).n : Nat) : Int)), .sc (.int .i64 (posF (popH (kgF (kL l) (ax.toNat % l.length) (loF l l.length - 1)) g (l.length - y)) (l.length - y - 1) ((at' (lsK (kgF (kL l) (ax.toNat % l.length) (loF l l.length - 1)) l.length) (y : Int)).n)))] := hfam3 _ hwn_
                  refine rl0 (gy rfl rfl rfl rfl rfl rfl) rfl rfl (step_callc rfl Try.func18 rfl rfl rfl (there_c (kgF (kL l) (ax.toNat % l.length) (loF l l.length - 1)) (n + 10) (at' (lsK (kgF (kL l) (ax.toNat % l.length) (loF l l.length - 1)) l.length) (y : Int)).n (posF (popH (kgF (kL l) (ax.toNat % l.length) (loF l l.length - 1)) g (l.length - y)) (l.length - y - 1) (at' (lsK (kgF (kL l) (ax.toNat % l.length) (loF l l.length - 1)) l.length) (y : Int)).n)) (by repeat (first | exact .nil | refine .cons ?_ ?_ | exact VLe.refl _ | exact vle_int (by omega) | exact vle_int hki_.symm | exact vle_int (kgF_c _ _ _) | exact vle_int (kgF_c _ _ _).symm | exact VLe.own_sl _ _ _ | exact VLe.fl_sl _ _ | exact VLe.nil_sl _ | exact VLe.nil_fl _ | refine VLe.agg ?_))) ⟨by repeat (first | exact uE | refine uN (by omega) ?_ | assumption | exact hd _ (by omega) | exact hd0 _ (by omega) | exact hd1 _ (by omega) | exact hd2 _ (by omega) | refine (hfz3 _ (by first | assumption | omega)).trans ?_ | fail), trivial⟩ ?_
                  refine rl_know (d := 170) (c := false) rfl ((by rw [show posF (popH (kgF (kL l) (ax.toNat % l.length) (loF l l.length - 1)) g (l.length - y)) (l.length - y - 1) (at' (lsK (kgF (kL l) (ax.toNat % l.length) (loF l l.length - 1)) l.length) (y : Int)).n = -1 from hgn_]; rfl)) ?_
                  refine rl0 (gn rfl) rfl rfl (step_pick rfl (ev_mk rfl) (ev_mk rfl)) trivial ?_
                  refine runsL_nil ?_
                  refine runs_cond false (ev_mk rfl) (fun h_ => nomatch h_) (fun _ => ?_)
                  refine runs_skip ?_
                  refine runs_region ?_
                  refine rl0 (gn rfl) rfl rfl (step_mv rfl rfl) trivial ?_
                  refine rl0 (gn rfl) rfl rfl (step_add rfl (ev_mk rfl) (ev_mk rfl) (w64 (by omega))) trivial ?_
                  refine rl0 (gn rfl) rfl rfl (step_as rfl rfl) trivial ?_
                  refine runsL_nil ?_
                  have hq0_ : ((y : Int) + 1) = ((y + 1) : Int) := by first | rfl | omega
                  have hq1_ : (l.length - y) - 1 = l.length - (y + 1) := by first | rfl | omega
                  refine ⟨_, _, ?_, sle ?_ (Nat.le_refl _), (y + 1), (popH (kgF (kL l) (ax.toNat % l.length) (loF l l.length - 1)) g (l.length - y)), _, _, rfl, rfl, by omega, (fun k_ hk_ => by repeat (first | exact hf2 k_ hk_ | exact hf0 k_ hk_ | exact hf1 k_ hk_ | refine (hfz3 _ (by first | assumption | omega)).trans ?_ | refine uN (by first | assumption | omega) ?_ | fail)), by first | ((repeat (first | exact uE | assumption | refine uN (by omega) ?_ | refine (hfz3 _ (by first | assumption | omega)).trans ?_ | fail)); done) | exact tl_eq (by repeat (first | exact uE | assumption | refine uN (by omega) ?_ | refine (hfz3 _ (by first | assumption | omega)).trans ?_ | fail)) (by first | rfl | (simp [bytesV, beB_len]; done) | (simp [bytesV, beB_len]; omega) | omega) | (rw [← hq0_]; (repeat (first | exact uE | assumption | refine uN (by omega) ?_ | refine (hfz3 _ (by first | assumption | omega)).trans ?_ | fail)); done) | (rw [← hq1_]; (repeat (first | exact uE | assumption | refine uN (by omega) ?_ | refine (hfz3 _ (by first | assumption | omega)).trans ?_ | fail)); done) | (rw [← hq0_, ← hq1_]; (repeat (first | exact uE | assumption | refine uN (by omega) ?_ | refine (hfz3 _ (by first | assumption | omega)).trans ?_ | fail)); done), by first | ((repeat (first | exact uE | assumption | refine uN (by omega) ?_ | refine (hfz3 _ (by first | assumption | omega)).trans ?_ | fail)); done) | exact tl_eq (by repeat (first | exact uE | assumption | refine uN (by omega) ?_ | refine (hfz3 _ (by first | assumption | omega)).trans ?_ | fail)) (by first | rfl | (simp [bytesV, beB_len]; done) | (simp [bytesV, beB_len]; omega) | omega) | (rw [← hq0_]; (repeat (first | exact uE | assumption | refine uN (by omega) ?_ | refine (hfz3 _ (by first | assumption | omega)).trans ?_ | fail)); done) | (rw [← hq1_]; (repeat (first | exact uE | assumption | refine uN (by omega) ?_ | refine (hfz3 _ (by first | assumption | omega)).trans ?_ | fail)); done) | (rw [← hq0_, ← hq1_]; (repeat (first | exact uE | assumption | refine uN (by omega) ?_ | refine (hfz3 _ (by first | assumption | omega)).trans ?_ | fail)); done), by first | ((repeat (first | exact uE | assumption | refine uN (by omega) ?_ | refine (hfz3 _ (by first | assumption | omega)).trans ?_ | fail)); done) | exact tl_eq (by repeat (first | exact uE | assumption | refine uN (by omega) ?_ | refine (hfz3 _ (by first | assumption | omega)).trans ?_ | fail)) (by first | rfl | (simp [bytesV, beB_len]; done) | (simp [bytesV, beB_len]; omega) | omega) | (rw [← hq0_]; (repeat (first | exact uE | assumption | refine uN (by omega) ?_ | refine (hfz3 _ (by first | assumption | omega)).trans ?_ | fail)); done) | (rw [← hq1_]; (repeat (first | exact uE | assumption | refine uN (by omega) ?_ | refine (hfz3 _ (by first | assumption | omega)).trans ?_ | fail)); done) | (rw [← hq0_, ← hq1_]; (repeat (first | exact uE | assumption | refine uN (by omega) ?_ | refine (hfz3 _ (by first | assumption | omega)).trans ?_ | fail)); done), (by omega), hst_, (fun a_ ha_ => by repeat (first | exact hfam3 a_ ha_ | refine uN (by omega) ?_ | refine (hfz3 _ (by first | assumption | omega)).trans ?_ | fail))⟩
                  · omega
                  · (repeat' (first | exact trivial | refine ⟨⟨_, rfl, ?_⟩, ?_⟩ | fail)); all_goals (repeat' (first | exact VLe.refl _ | exact VLe.own_sl _ _ _ | exact VLe.fl_sl _ _ | exact VLe.nil_sl _ | exact VLe.nil_fl _ | exact VLes.refl _ | exact .nil | refine VLe.tup ?_ | refine VLe.agg ?_ | refine .cons ?_ ?_ | (rw [Int.natCast_add]; exact VLe.refl _) | exact vle_int (by omega) | exact vle_bool (by first | rfl | assumption | (simp_all; done) | fail) | (rw [← hq0_]; exact VLe.refl _) | (rw [hq0_]; exact VLe.refl _) | (rw [← hq1_]; exact VLe.refl _) | (rw [hq1_]; exact VLe.refl _) | fail))
                · skip
                  refine runsL_nil ?_
                  refine runs_cond false (ev_mk rfl) (fun h_ => nomatch h_) (fun _ => ?_)
                  refine runs_exit ?_
                  refine runs_seq ?_
                  refine runs_region ?_
                  refine rl0 (gn rfl) rfl rfl (step_mv rfl rfl) trivial ?_
                  refine rl0 (gn rfl) rfl rfl (step_callc rfl Try.func16 rfl rfl rfl (len_c (n + 0) (n + 1) l.length (l.length - y) l.length) (by repeat (first | exact .nil | refine .cons ?_ ?_ | exact VLe.refl _ | exact vle_int (by omega) | exact vle_int hki_.symm | exact vle_int (kgF_c _ _ _) | exact vle_int (kgF_c _ _ _).symm | exact VLe.own_sl _ _ _ | exact VLe.fl_sl _ _ | exact VLe.nil_sl _ | exact VLe.nil_fl _ | refine VLe.agg ?_))) ⟨by repeat (first | exact uE | refine uN (by omega) ?_ | assumption | exact hd _ (by omega) | exact hd0 _ (by omega) | exact hd1 _ (by omega) | exact hd2 _ (by omega) | fail), trivial⟩ ?_
                  refine rl_eql (gn rfl) rfl rfl rfl rfl rfl (fun h7 => ?_) (fun h7 => ?_)
                  rotate_left
                  · exact False.elim (by omega)
                  refine rl0 (gn rfl) rfl rfl (step_mv rfl rfl) trivial ?_
                  refine rl0 (gy rfl rfl rfl rfl rfl rfl) rfl rfl (step_callc rfl Try.func6 rfl rfl rfl (works_c) (by repeat (first | exact .nil | refine .cons ?_ ?_ | exact VLe.refl _ | exact vle_int (by omega) | exact vle_int hki_.symm | exact vle_int (kgF_c _ _ _) | exact vle_int (kgF_c _ _ _).symm | exact VLe.own_sl _ _ _ | exact VLe.fl_sl _ _ | exact VLe.nil_sl _ | exact VLe.nil_fl _ | refine VLe.agg ?_))) trivial ?_
                  refine rl0 (gn rfl) rfl rfl (step_pick rfl (ev_mk rfl) (ev_mk rfl)) trivial ?_
                  refine rl0 (gn rfl) rfl rfl (step_as rfl rfl) trivial ?_
                  refine runsL_nil ?_
                  refine runs_ret ?_
                  refine ⟨by first | exact .inr rfl | exact .inl rfl, fin_mkg (rest rfl res0) ?_ ?_ ?_ ?_ ?_⟩
                  · (repeat' (first | exact VLe.refl _ | exact VLe.own_sl _ _ _ | exact VLe.fl_sl _ _ | exact VLe.nil_sl _ | exact VLe.nil_fl _ | exact VLes.refl _ | exact .nil | refine VLe.tup ?_ | refine VLe.agg ?_ | refine .cons ?_ ?_ | (rw [Int.natCast_add]; exact VLe.refl _) | exact vle_int (by omega) | exact vle_bool (by first | rfl | assumption | (simp_all; done) | fail) | fail))
                  · first | ((repeat (first | exact trivial | exact allR_bd (by omega) | assumption | omega | refine ⟨?_, ?_⟩ | fail)); done) | (repeat (first | exact trivial | assumption | omega | (refine bdR_map (fun _ => ?_)) | (refine bdL_map (fun _ => ?_)) | refine ⟨?_, ?_⟩ | fail))
                  · intro k_ hk_; exact ble (by repeat (first | exact rfl | refine uN (by omega) ?_ | assumption | exact hf0 _ (by omega) | exact hf1 _ (by omega) | exact hf2 _ (by omega) | fail))
                  · intro p hp; cases hp
                  · first | ((repeat (first | exact trivial | exact allR_bd (by omega) | assumption | omega | refine ⟨?_, ?_⟩ | fail)); done) | (repeat (first | exact trivial | assumption | omega | (refine bdR_map (fun _ => ?_)) | (refine bdL_map (fun _ => ?_)) | refine ⟨?_, ?_⟩ | fail))
set_option maxRecDepth 100000 in
set_option maxHeartbeats 4000000 in
theorem raises_hi (l : List Int) (ax : Int) (hl : (l.length : Int) ≤ 9223372036854775807) (ha : 0 ≤ ax ∧ ax < 256) : Does Try.prog 4 [.sl 1 (l.map iR), .sc (.int .u8 ax), .sc (.bool false)] [] [] (.sc (.bool true)) := by
  refine does_mkg 300 Try.func4 rfl rfl rfl (fun n B bx hd hpre hup hvs hbx hgx => ?_)
  refine runs_seq ?_
  refine runs_region ?_
  refine rl0 (gn rfl) rfl rfl (step_as rfl rfl) trivial ?_
  refine runsL_nil ?_
  refine runs_seq ?_
  refine runs_seq ?_
  refine runs_region ?_
  refine rl0 (gn rfl) rfl rfl (step_mv rfl rfl) trivial ?_
  refine rl0 (gn rfl) rfl rfl (step_len (m := l.length) rfl rfl (ev_mk rfl) (.inl ⟨⟨_, Try.underlying44⟩, .inl ⟨_, _, .inl rfl, List.length_map _⟩⟩)) trivial ?_
  refine rl_gtr (gn rfl) rfl rfl rfl rfl rfl (fun h1 => ?_) (fun h1 => ?_)
  · skip
    refine rl0 (gn rfl) rfl rfl (step_mv rfl rfl) trivial ?_
    refine rlk rfl rfl rfl rfl rfl (ngb rfl rfl) rfl rfl ?_
    refine rlk rfl rfl rfl rfl rfl (ngb rfl rfl) rfl rfl ?_
    refine rlk rfl rfl rfl rfl rfl (ngb rfl rfl) rfl rfl ?_
    refine rl0 (gn rfl) rfl rfl (step_pick rfl (ev_mk rfl) (ev_mk rfl)) trivial ?_
    refine runsL_nil ?_
    refine runs_cond true (ev_mk rfl) (fun _ => ?_) (fun h_ => nomatch h_)
    refine runs_seq ?_
    refine runs_region ?_
    refine rl0 (gn rfl) rfl rfl (step_callc rfl Try.func6 rfl rfl rfl (works_c) (by repeat (first | exact .nil | refine .cons ?_ ?_ | exact VLe.refl _ | exact vle_int (by omega) | exact vle_int hki_.symm | exact vle_int (kgF_c _ _ _) | exact vle_int (kgF_c _ _ _).symm | exact VLe.own_sl _ _ _ | exact VLe.fl_sl _ _ | exact VLe.nil_sl _ | exact VLe.nil_fl _ | refine VLe.agg ?_))) trivial ?_
    refine rl0 (gn rfl) rfl rfl (step_as rfl rfl) trivial ?_
    refine runsL_nil ?_
    refine runs_ret ?_
    refine ⟨by first | exact .inr rfl | exact .inl rfl, fin_mkg (rest rfl res0) ?_ ?_ ?_ ?_ ?_⟩
    · (repeat' (first | exact VLe.refl _ | exact VLe.own_sl _ _ _ | exact VLe.fl_sl _ _ | exact VLe.nil_sl _ | exact VLe.nil_fl _ | exact VLes.refl _ | exact .nil | refine VLe.tup ?_ | refine VLe.agg ?_ | refine .cons ?_ ?_ | (rw [Int.natCast_add]; exact VLe.refl _) | exact vle_int (by omega) | exact vle_bool (by first | rfl | assumption | (simp_all; done) | fail) | fail))
    · first | ((repeat (first | exact trivial | exact allR_bd (by omega) | assumption | omega | refine ⟨?_, ?_⟩ | fail)); done) | (repeat (first | exact trivial | assumption | omega | (refine bdR_map (fun _ => ?_)) | (refine bdL_map (fun _ => ?_)) | refine ⟨?_, ?_⟩ | fail))
    · intro k_ hk_; exact ble (by repeat (first | exact rfl | refine uN (by omega) ?_ | assumption | fail))
    · intro p hp; cases hp
    · first | ((repeat (first | exact trivial | exact allR_bd (by omega) | assumption | omega | refine ⟨?_, ?_⟩ | fail)); done) | (repeat (first | exact trivial | assumption | omega | (refine bdR_map (fun _ => ?_)) | (refine bdL_map (fun _ => ?_)) | refine ⟨?_, ?_⟩ | fail))
  · skip
    refine rl0 (gn rfl) rfl rfl (step_mv rfl rfl) trivial ?_
    refine rl0 (gy rfl rfl rfl rfl rfl rfl) rfl rfl (step_mv rfl rfl) trivial ?_
    refine rl0 (gy rfl rfl rfl rfl rfl rfl) rfl rfl (step_len (m := l.length) rfl rfl (ev_mk rfl) (.inl ⟨⟨_, Try.underlying44⟩, .inl ⟨_, _, .inl rfl, List.length_map _⟩⟩)) trivial ?_
    refine rl_eql (gy rfl rfl rfl rfl rfl rfl) rfl rfl rfl rfl rfl (fun h2 => ?_) (fun h2 => ?_)
    · skip
      refine rl0 (gn rfl) rfl rfl (step_pick rfl (ev_mk rfl) (ev_mk rfl)) trivial ?_
      refine runsL_nil ?_
      refine runs_cond true (ev_mk rfl) (fun _ => ?_) (fun h_ => nomatch h_)
      refine runs_seq ?_
      refine runs_region ?_
      refine rl0 (gn rfl) rfl rfl (step_callc rfl Try.func6 rfl rfl rfl (works_c) (by repeat (first | exact .nil | refine .cons ?_ ?_ | exact VLe.refl _ | exact vle_int (by omega) | exact vle_int hki_.symm | exact vle_int (kgF_c _ _ _) | exact vle_int (kgF_c _ _ _).symm | exact VLe.own_sl _ _ _ | exact VLe.fl_sl _ _ | exact VLe.nil_sl _ | exact VLe.nil_fl _ | refine VLe.agg ?_))) trivial ?_
      refine rl0 (gn rfl) rfl rfl (step_as rfl rfl) trivial ?_
      refine runsL_nil ?_
      refine runs_ret ?_
      refine ⟨by first | exact .inr rfl | exact .inl rfl, fin_mkg (rest rfl res0) ?_ ?_ ?_ ?_ ?_⟩
      · (repeat' (first | exact VLe.refl _ | exact VLe.own_sl _ _ _ | exact VLe.fl_sl _ _ | exact VLe.nil_sl _ | exact VLe.nil_fl _ | exact VLes.refl _ | exact .nil | refine VLe.tup ?_ | refine VLe.agg ?_ | refine .cons ?_ ?_ | (rw [Int.natCast_add]; exact VLe.refl _) | exact vle_int (by omega) | exact vle_bool (by first | rfl | assumption | (simp_all; done) | fail) | fail))
      · first | ((repeat (first | exact trivial | exact allR_bd (by omega) | assumption | omega | refine ⟨?_, ?_⟩ | fail)); done) | (repeat (first | exact trivial | assumption | omega | (refine bdR_map (fun _ => ?_)) | (refine bdL_map (fun _ => ?_)) | refine ⟨?_, ?_⟩ | fail))
      · intro k_ hk_; exact ble (by repeat (first | exact rfl | refine uN (by omega) ?_ | assumption | fail))
      · intro p hp; cases hp
      · first | ((repeat (first | exact trivial | exact allR_bd (by omega) | assumption | omega | refine ⟨?_, ?_⟩ | fail)); done) | (repeat (first | exact trivial | assumption | omega | (refine bdR_map (fun _ => ?_)) | (refine bdL_map (fun _ => ?_)) | refine ⟨?_, ?_⟩ | fail))
    · skip
      refine rl0 (gn rfl) rfl rfl (step_pick rfl (ev_mk rfl) (ev_mk rfl)) trivial ?_
      refine runsL_nil ?_
      refine runs_cond false (ev_mk rfl) (fun h_ => nomatch h_) (fun _ => ?_)
      refine runs_skip ?_
      refine runs_seq ?_
      refine runs_region ?_
      refine rl1 (gn rfl) rfl rfl (step_callc rfl Try.func7 rfl rfl rfl (new_c (n + 0)) (by repeat (first | exact .nil | refine .cons ?_ ?_ | exact VLe.refl _ | exact vle_int (by omega) | exact vle_int hki_.symm | exact vle_int (kgF_c _ _ _) | exact vle_int (kgF_c _ _ _).symm | exact VLe.own_sl _ _ _ | exact VLe.fl_sl _ _ | exact VLe.nil_sl _ | exact VLe.nil_fl _ | refine VLe.agg ?_))) ⟨by repeat (first | exact uE | refine uN (by omega) ?_ | assumption | exact hd _ (by omega) | fail), trivial⟩ (by omega) ?_
      refine rl0 (gn rfl) rfl rfl (step_as rfl rfl) trivial ?_
      refine runsL_nil ?_
      refine runs_seq ?_
      refine runs_seq ?_
      refine runs_region ?_
      refine rl0 (gn rfl) rfl rfl (step_mv rfl rfl) trivial ?_
      refine rl0 (gn rfl) rfl rfl (step_eq_nil (b := false) rfl (ev_mk rfl) (ev_mk rfl) Try.underlying24 ⟨_, .inl ⟨.inl ⟨_, _, rfl⟩, rfl⟩, .inl ⟨rfl, rfl⟩⟩) trivial ?_
      refine runsL_nil ?_
      refine runs_cond false (ev_mk rfl) (fun h_ => nomatch h_) (fun _ => ?_)
      refine runs_skip ?_
      refine runs_seq ?_
      refine runs_region ?_
      refine rl0 (gn rfl) rfl rfl (step_as rfl rfl) trivial ?_
      refine runsL_nil ?_
      refine runs_seq ?_
      refine runs_region ?_
      refine rl0 (gn rfl) rfl rfl (step_as rfl rfl) trivial ?_
      refine runsL_nil ?_
      refine runs_seq ?_
      refine runs_draw (by kernel_rfl) (by kernel_rfl) (by kernel_rfl) ?_
      refine dl0 (gn rfl) rfl rfl (step_mv rfl rfl) trivial ?_
      refine' dl0 (gn rfl) rfl rfl (step_index rfl (ev_mk rfl) (.inl rfl) (ev_mk rfl) Try.underlying44 F.sz3 (by omega) ?hr) trivial ?_
      case hr => exact map_at _ _ _ (by omega) (by omega)
      refine dl0 (gn rfl) rfl rfl (step_load_ro rfl (ev_mk rfl) F.one3 rfl) trivial ?_
      refine dl0 (gn rfl) rfl rfl (step_mv rfl rfl) trivial ?_
      refine' dl0 (gn rfl) rfl rfl (step_index rfl (ev_mk rfl) (.inl rfl) (ev_mk rfl) Try.underlying44 F.sz3 (by omega) ?hr) trivial ?_
      case hr => exact map_at _ _ _ (by omega) (by omega)
      refine dl0 (gn rfl) rfl rfl (step_load_ro rfl (ev_mk rfl) F.one3 rfl) trivial ?_
      refine dl0 (gn rfl) rfl rfl (step_as rfl rfl) trivial ?_
      refine dl0 (gn rfl) rfl rfl (step_as rfl rfl) trivial ?_
      refine dlnil ?_ ?_
      · repeat' (first | exact trivial | exact .inr (ap0 _ _ _ _) | exact .inr (ap2 _ _ _ _) | exact .inr (ap3 _ _ _ _) | exact .inr ⟨by first | (simp; done) | (simp; omega), by first | (simp; done) | (simp; omega)⟩ | exact .inl (by kernel_rfl) | refine ⟨?_, ?_⟩ | fail)
      refine runs_seq ?_
      refine runs_seq ?_
      refine runs_region ?_
      refine rl0 (gn rfl) rfl rfl (step_as rfl rfl) trivial ?_
      refine runsL_nil ?_
      refine runs_block ?_
      refine runs_growgb (k := n + 0) (kn := n + 1) (q := 0) (e := 1) (by repeat (first | exact uE | refine uN (by omega) ?_ | assumption | exact hd _ (by omega) | fail)) rfl (by repeat (first | exact uE | refine uN (by omega) ?_ | assumption | exact hd _ (by omega) | fail)) (by omega) (by omega) ?_
      refine runs_grow (l' := []) (d := 8) (k := n + 2) (e := 1) (xs := []) rfl (.inr ⟨rfl, rfl⟩) (by repeat (first | exact uE | refine uN (by omega) ?_ | assumption | exact hd _ (by omega) | fail)) (by omega) ?_
      have hs0_ : [] = (allR (n + 10) 0) := by rfl
      have hs1_ : at' l 0 = loF l 0 := by rfl
      have hs2_ : at' l 0 = hiF l 0 := by rfl
      have hs3_ : 0 = (0 : Int) := by first | rfl | omega
      have hs4_ : [] = rowsH (n + 10) (fun _ => 0) 0 := by rfl
      have hs5_ : 0 = (allR (n + 10) 0).length := by first | rfl | omega
      refine runs_loop (fun (ri_ : Nat) (st_ : Go.Vm.S) => ∃ (i : Nat) (h : Nat → Nat) (m0 : Nat) (b0 : Nat → Box), (st_ = ⟨mk [(0, .sl 1 (l.map iR)), (1, .sc (.int .u8 ax)), (2, .sc (.bool false)), (6, .sc (.bool false)), (7, .ref (n + 0) 0), (8, .own 1 (allR (n + 10) i) (n + 2)), (9, .sc (.slice none 0 0)), (10, .sc (.int .i64 (loF l i))), (11, .sc (.int .i64 (hiF l i))), (12, .sc (.int .i64 (i : Int)))], m0, b0⟩) ∧ (ri_ = 1 + (l.length - i)) ∧ (n + 150 ≤ m0) ∧ (∀ k_, k_ < n → b0 k_ = bx k_) ∧ (b0 (n + 0) = .cells [.gsl (n + 1) i 0 i 1, .sc (.func (.func 8) #[] #[]), .sc (.int .i64 (i : Int))]) ∧ (b0 (n + 1) = .gcells i 1 (rowsH (n + 10) h i)) ∧ (b0 (n + 2) = .tail (allR (n + 10) i).length) ∧ (i ≤ l.length) ∧ (Hal (kL l) h i) ∧ (∀ a, a < i → b0 (n + 10 + a) = .cells (itC (kL l) h i a)) ∧ (∀ a, i ≤ a → a < 128 → b0 (n + 10 + a) = .dead) ∧ (∀ j, j < i → -1000 ≤ kL l j ∧ kL l j ≤ 1000)) (1 + (l.length - 0)) ⟨_, sle ?_ (Nat.le_refl _), 0, (fun _ => 0), _, _, rfl, rfl, ?_⟩ ?_
      · (repeat' (first | exact trivial | refine ⟨⟨_, rfl, ?_⟩, ?_⟩ | fail)); all_goals (repeat' (first | exact VLe.refl _ | exact VLe.own_sl _ _ _ | exact VLe.fl_sl _ _ | exact VLe.nil_sl _ | exact VLe.nil_fl _ | exact VLes.refl _ | exact .nil | refine VLe.tup ?_ | refine VLe.agg ?_ | refine .cons ?_ ?_ | (rw [Int.natCast_add]; exact VLe.refl _) | exact vle_int (by omega) | exact vle_bool (by first | rfl | assumption | (simp_all; done) | fail) | (rw [← hs0_]; exact VLe.refl _) | (rw [hs0_]; exact VLe.refl _) | (rw [← hs1_]; exact VLe.refl _) | (rw [hs1_]; exact VLe.refl _) | (rw [← hs2_]; exact VLe.refl _) | (rw [hs2_]; exact VLe.refl _) | (rw [← hs3_]; exact VLe.refl _) | (rw [hs3_]; exact VLe.refl _) | (rw [← hs4_]; exact VLe.refl _) | (rw [hs4_]; exact VLe.refl _) | (rw [← hs5_]; exact VLe.refl _) | (rw [hs5_]; exact VLe.refl _) | fail))
      · exact ⟨by omega, (fun k_ hk_ => by repeat (first | exact rfl | refine uN (by omega) ?_ | assumption | fail)), by first | ((repeat (first | exact uE | assumption | refine uN (by omega) ?_ | fail)); done) | exact tl_eq (by repeat (first | exact uE | assumption | refine uN (by omega) ?_ | fail)) (by first | rfl | (simp [bytesV, beB_len]; done) | (simp [bytesV, beB_len]; omega) | omega) | (rw [← hs0_]; (repeat (first | exact uE | assumption | refine uN (by omega) ?_ | fail)); done) | (rw [← hs1_]; (repeat (first | exact uE | assumption | refine uN (by omega) ?_ | fail)); done) | (rw [← hs2_]; (repeat (first | exact uE | assumption | refine uN (by omega) ?_ | fail)); done) | (rw [← hs3_]; (repeat (first | exact uE | assumption | refine uN (by omega) ?_ | fail)); done) | (rw [← hs4_]; (repeat (first | exact uE | assumption | refine uN (by omega) ?_ | fail)); done) | (rw [← hs5_]; (repeat (first | exact uE | assumption | refine uN (by omega) ?_ | fail)); done) | (rw [← hs0_, ← hs1_, ← hs2_, ← hs3_, ← hs4_, ← hs5_]; (repeat (first | exact uE | assumption | refine uN (by omega) ?_ | fail)); done), by first | ((repeat (first | exact uE | assumption | refine uN (by omega) ?_ | fail)); done) | exact tl_eq (by repeat (first | exact uE | assumption | refine uN (by omega) ?_ | fail)) (by first | rfl | (simp [bytesV, beB_len]; done) | (simp [bytesV, beB_len]; omega) | omega) | (rw [← hs0_]; (repeat (first | exact uE | assumption | refine uN (by omega) ?_ | fail)); done) | (rw [← hs1_]; (repeat (first | exact uE | assumption | refine uN (by omega) ?_ | fail)); done) | (rw [← hs2_]; (repeat (first | exact uE | assumption | refine uN (by omega) ?_ | fail)); done) | (rw [← hs3_]; (repeat (first | exact uE | assumption | refine uN (by omega) ?_ | fail)); done) | (rw [← hs4_]; (repeat (first | exact uE | assumption | refine uN (by omega) ?_ | fail)); done) | (rw [← hs5_]; (repeat (first | exact uE | assumption | refine uN (by omega) ?_ | fail)); done) | (rw [← hs0_, ← hs1_, ← hs2_, ← hs3_, ← hs4_, ← hs5_]; (repeat (first | exact uE | assumption | refine uN (by omega) ?_ | fail)); done), by first | ((repeat (first | exact uE | assumption | refine uN (by omega) ?_ | fail)); done) | exact tl_eq (by repeat (first | exact uE | assumption | refine uN (by omega) ?_ | fail)) (by first | rfl | (simp [bytesV, beB_len]; done) | (simp [bytesV, beB_len]; omega) | omega) | (rw [← hs0_]; (repeat (first | exact uE | assumption | refine uN (by omega) ?_ | fail)); done) | (rw [← hs1_]; (repeat (first | exact uE | assumption | refine uN (by omega) ?_ | fail)); done) | (rw [← hs2_]; (repeat (first | exact uE | assumption | refine uN (by omega) ?_ | fail)); done) | (rw [← hs3_]; (repeat (first | exact uE | assumption | refine uN (by omega) ?_ | fail)); done) | (rw [← hs4_]; (repeat (first | exact uE | assumption | refine uN (by omega) ?_ | fail)); done) | (rw [← hs5_]; (repeat (first | exact uE | assumption | refine uN (by omega) ?_ | fail)); done) | (rw [← hs0_, ← hs1_, ← hs2_, ← hs3_, ← hs4_, ← hs5_]; (repeat (first | exact uE | assumption | refine uN (by omega) ?_ | fail)); done), (by omega), Hst.nil _ _, (fun _ h_ => absurd h_ (Nat.not_lt_zero _)), (fun a_ _ _ => by repeat (first | exact uE | refine uN (by omega) ?_ | assumption | exact hd _ (by omega) | fail)), (fun _ h_ => absurd h_ (Nat.not_lt_zero _))⟩
      · rintro _ _ ⟨i, h, m0, b0, rfl, rfl, hm0, hf0, hB0_0, hB0_1, hB0_2, hF0_0, hF0_1, hF0_2, hF0_3, hF0_4⟩
        refine runs_know (fun hd0 => ?_)
        refine runs_bump 20 ?_
        simp only at hd0
        refine runs_seq ?_
        refine runs_seq ?_
        refine runs_region ?_
        refine rl0 (gn rfl) rfl rfl (step_mv rfl rfl) trivial ?_
        refine rl0 (gn rfl) rfl rfl (step_mv rfl rfl) trivial ?_
        refine rl0 (gn rfl) rfl rfl (step_len (m := l.length) rfl rfl (ev_mk rfl) (.inl ⟨⟨_, Try.underlying44⟩, .inl ⟨_, _, .inl rfl, List.length_map _⟩⟩)) trivial ?_
        refine rl_lss (gn rfl) rfl rfl rfl rfl rfl (fun h3 => ?_) (fun h3 => ?_)
        · skip
          refine runsL_nil ?_
          refine runs_cond true (ev_mk rfl) (fun _ => ?_) (fun h_ => nomatch h_)
          refine runs_skip ?_
          refine runs_seq ?_
          refine runs_block ?_
          refine runs_seq ?_
          refine runs_seq ?_
          refine runs_region ?_
          refine rl0 (gn rfl) rfl rfl (step_mv rfl rfl) trivial ?_
          refine rl0 (gn rfl) rfl rfl (step_mv rfl rfl) trivial ?_
          refine' rl0 (gn rfl) rfl rfl (step_index rfl (ev_mk rfl) (.inl rfl) (ev_mk rfl) Try.underlying44 F.sz3 (by omega) ?hr) trivial ?_
          case hr => exact map_at _ _ _ (by omega) (by omega)
          refine rl0 (gn rfl) rfl rfl (step_load_ro rfl (ev_mk rfl) F.one3 rfl) trivial ?_
          refine rl_lss (gn rfl) rfl rfl rfl rfl rfl (fun h4 => ?_) (fun h4 => ?_)
          · skip
            refine rl0 (gn rfl) rfl rfl (step_mv rfl rfl) trivial ?_
            refine rlk rfl rfl rfl rfl rfl (ngb rfl rfl) rfl rfl ?_
            refine rlk rfl rfl rfl rfl rfl (ngb rfl rfl) rfl rfl ?_
            refine rlk rfl rfl rfl rfl rfl (ngb rfl rfl) rfl rfl ?_
            refine rlk rfl rfl rfl rfl rfl (ngb rfl rfl) rfl rfl ?_
            refine rlk rfl rfl rfl rfl rfl (ngb rfl rfl) rfl rfl ?_
            refine rl0 (gn rfl) rfl rfl (step_pick rfl (ev_mk rfl) (ev_mk rfl)) trivial ?_
            refine runsL_nil ?_
            refine runs_cond true (ev_mk rfl) (fun _ => ?_) (fun h_ => nomatch h_)
            refine runs_seq ?_
            refine runs_region ?_
            refine rl0 (gn rfl) rfl rfl (step_callc rfl Try.func6 rfl rfl rfl (works_c) (by repeat (first | exact .nil | refine .cons ?_ ?_ | exact VLe.refl _ | exact vle_int (by omega) | exact vle_int hki_.symm | exact vle_int (kgF_c _ _ _) | exact vle_int (kgF_c _ _ _).symm | exact VLe.own_sl _ _ _ | exact VLe.fl_sl _ _ | exact VLe.nil_sl _ | exact VLe.nil_fl _ | refine VLe.agg ?_))) trivial ?_
            refine rl0 (gn rfl) rfl rfl (step_as rfl rfl) trivial ?_
            refine runsL_nil ?_
            refine runs_ret ?_
            refine ⟨by first | exact .inr rfl | exact .inl rfl, fin_mkg (rest rfl res0) ?_ ?_ ?_ ?_ ?_⟩
            · (repeat' (first | exact VLe.refl _ | exact VLe.own_sl _ _ _ | exact VLe.fl_sl _ _ | exact VLe.nil_sl _ | exact VLe.nil_fl _ | exact VLes.refl _ | exact .nil | refine VLe.tup ?_ | refine VLe.agg ?_ | refine .cons ?_ ?_ | (rw [Int.natCast_add]; exact VLe.refl _) | exact vle_int (by omega) | exact vle_bool (by first | rfl | assumption | (simp_all; done) | fail) | fail))
            · first | ((repeat (first | exact trivial | exact allR_bd (by omega) | assumption | omega | refine ⟨?_, ?_⟩ | fail)); done) | (repeat (first | exact trivial | assumption | omega | (refine bdR_map (fun _ => ?_)) | (refine bdL_map (fun _ => ?_)) | refine ⟨?_, ?_⟩ | fail))
            · intro k_ hk_; exact ble (by repeat (first | exact rfl | refine uN (by omega) ?_ | assumption | exact hf0 _ (by omega) | fail))
            · intro p hp; cases hp
            · first | ((repeat (first | exact trivial | exact allR_bd (by omega) | assumption | omega | refine ⟨?_, ?_⟩ | fail)); done) | (repeat (first | exact trivial | assumption | omega | (refine bdR_map (fun _ => ?_)) | (refine bdL_map (fun _ => ?_)) | refine ⟨?_, ?_⟩ | fail))
          · skip
            have hlo_ := h4
            refine rl0 (gn rfl) rfl rfl (step_mv rfl rfl) trivial ?_
            refine rl0 (gy rfl rfl rfl rfl rfl rfl) rfl rfl (step_mv rfl rfl) trivial ?_
            refine rl0 (gy rfl rfl rfl rfl rfl rfl) rfl rfl (step_mv rfl rfl) trivial ?_
            refine' rl0 (gy rfl rfl rfl rfl rfl rfl) rfl rfl (step_index rfl (ev_mk rfl) (.inl rfl) (ev_mk rfl) Try.underlying44 F.sz3 (by omega) ?hr) trivial ?_
            case hr => exact map_at _ _ _ (by omega) (by omega)
            refine rl0 (gy rfl rfl rfl rfl rfl rfl) rfl rfl (step_load_ro rfl (ev_mk rfl) F.one3 rfl) trivial ?_
            refine rl_gtr (gy rfl rfl rfl rfl rfl rfl) rfl rfl rfl rfl rfl (fun h5 => ?_) (fun h5 => ?_)
            · skip
              refine rl0 (gn rfl) rfl rfl (step_pick rfl (ev_mk rfl) (ev_mk rfl)) trivial ?_
              refine runsL_nil ?_
              refine runs_cond true (ev_mk rfl) (fun _ => ?_) (fun h_ => nomatch h_)
              refine runs_seq ?_
              refine runs_region ?_
              refine rl0 (gn rfl) rfl rfl (step_callc rfl Try.func6 rfl rfl rfl (works_c) (by repeat (first | exact .nil | refine .cons ?_ ?_ | exact VLe.refl _ | exact vle_int (by omega) | exact vle_int hki_.symm | exact vle_int (kgF_c _ _ _) | exact vle_int (kgF_c _ _ _).symm | exact VLe.own_sl _ _ _ | exact VLe.fl_sl _ _ | exact VLe.nil_sl _ | exact VLe.nil_fl _ | refine VLe.agg ?_))) trivial ?_
              refine rl0 (gn rfl) rfl rfl (step_as rfl rfl) trivial ?_
              refine runsL_nil ?_
              refine runs_ret ?_
              refine ⟨by first | exact .inr rfl | exact .inl rfl, fin_mkg (rest rfl res0) ?_ ?_ ?_ ?_ ?_⟩
              · (repeat' (first | exact VLe.refl _ | exact VLe.own_sl _ _ _ | exact VLe.fl_sl _ _ | exact VLe.nil_sl _ | exact VLe.nil_fl _ | exact VLes.refl _ | exact .nil | refine VLe.tup ?_ | refine VLe.agg ?_ | refine .cons ?_ ?_ | (rw [Int.natCast_add]; exact VLe.refl _) | exact vle_int (by omega) | exact vle_bool (by first | rfl | assumption | (simp_all; done) | fail) | fail))
              · first | ((repeat (first | exact trivial | exact allR_bd (by omega) | assumption | omega | refine ⟨?_, ?_⟩ | fail)); done) | (repeat (first | exact trivial | assumption | omega | (refine bdR_map (fun _ => ?_)) | (refine bdL_map (fun _ => ?_)) | refine ⟨?_, ?_⟩ | fail))
              · intro k_ hk_; exact ble (by repeat (first | exact rfl | refine uN (by omega) ?_ | assumption | exact hf0 _ (by omega) | fail))
              · intro p hp; cases hp
              · first | ((repeat (first | exact trivial | exact allR_bd (by omega) | assumption | omega | refine ⟨?_, ?_⟩ | fail)); done) | (repeat (first | exact trivial | assumption | omega | (refine bdR_map (fun _ => ?_)) | (refine bdL_map (fun _ => ?_)) | refine ⟨?_, ?_⟩ | fail))
            · skip
              have hhi_ := h5
              refine rl0 (gn rfl) rfl rfl (step_pick rfl (ev_mk rfl) (ev_mk rfl)) trivial ?_
              refine runsL_nil ?_
              refine runs_cond false (ev_mk rfl) (fun h_ => nomatch h_) (fun _ => ?_)
              refine runs_skip ?_
              refine runs_seq ?_
              have hdd_ : b0 (n + 10 + i) = .dead := hF0_3 i (by omega) (by omega)
              refine runs_region ?_
              refine rl0 (gn rfl) rfl rfl (step_mv rfl rfl) trivial ?_
              refine rl0 (gn rfl) rfl rfl (step_mv rfl rfl) trivial ?_
              refine rl0 (gn rfl) rfl rfl (step_mv rfl rfl) trivial ?_
              refine rl0 (gn rfl) rfl rfl (step_mv rfl rfl) trivial ?_
              refine' rl0 (gn rfl) rfl rfl (step_index rfl (ev_mk rfl) (.inl rfl) (ev_mk rfl) Try.underlying44 F.sz3 (by omega) ?hr) trivial ?_
              case hr => exact map_at _ _ _ (by omega) (by omega)
              refine rl0 (gn rfl) rfl rfl (step_load_ro rfl (ev_mk rfl) F.one3 rfl) trivial ?_
              refine rl_fam (gn rfl) rfl rfl (step_callc rfl Try.func10 rfl rfl rfl (push_c (kL l) h (n + 10) (n + 0) (n + 1) i i i i (Nat.le_refl _) (by omega) (by omega) hF0_1.inj hF0_1.lt (by omega) (by omega) (by omega)) (by repeat (first | exact .nil | refine .cons ?_ ?_ | exact VLe.refl _ | exact vle_int (by omega) | exact vle_int hki_.symm | exact vle_int (kgF_c _ _ _) | exact vle_int (kgF_c _ _ _).symm | exact VLe.own_sl _ _ _ | exact VLe.fl_sl _ _ | exact VLe.nil_sl _ | exact VLe.nil_fl _ | refine VLe.agg ?_))) ⟨by repeat (first | exact uE | refine uN (by omega) ?_ | assumption | exact hd _ (by omega) | exact hd0 _ (by omega) | fail), by repeat (first | exact uE | refine uN (by omega) ?_ | assumption | exact hd _ (by omega) | exact hd0 _ (by omega) | fail), by repeat (first | exact uE | refine uN (by omega) ?_ | assumption | exact hd _ (by omega) | exact hd0 _ (by omega) | fail), fam_ok (fun a_ ha_ => by repeat (first | exact hF0_2 a_ ha_ | refine uN (by omega) ?_ | fail))⟩ (by repeat (first | exact trivial | refine ⟨by omega, ?_⟩)) (by omega) (fun bz1 hfam1 hfz1 => ?_)
              simp only [upds] at hfz1
              refine rl0 (gn rfl) rfl rfl (step_lit rfl Try.underlying28 F.sz34 F.zero34 (by first | rfl | simp) (by first | rfl | simp | decide) (by decide) rfl rfl (by first | (simp [V.cs, V.stor, oneV]; done) | (simp [V.cs, V.stor, oneV])) rfl) trivial ?_
              refine' rl1 (gn rfl) rfl rfl (step_append_own rfl rfl rfl Try.underlying28 ⟨_, Try.underlying28, fun k_ => by intro h_; cases h_⟩ F.el34 (ev_mk rfl) (ev_mk rfl) (gives_sl (.inr (.inl rfl))) ?hg) ⟨?hb, trivial⟩ (by omega) ?_
              case hb => repeat (first | exact uE | refine uN (by omega) ?_ | assumption | exact hd _ (by omega) | exact hd0 _ (by omega) | refine (hfz1 _ (by first | assumption | omega)).trans ?_ | fail)
              case hg => (rw [allR_len]; show i + 1 ≤ 1073741824; omega)
              refine rl0 (gn rfl) rfl rfl (step_as rfl rfl) trivial ?_
              refine runsL_nil ?_
              refine runs_draw (by kernel_rfl) (by kernel_rfl) (by kernel_rfl) ?_
              refine dl0 (gn rfl) rfl rfl (step_mv rfl rfl) trivial ?_
              refine dl0 (gn rfl) rfl rfl (step_mv rfl rfl) trivial ?_
              refine dl0 (gn rfl) rfl rfl (step_mv rfl rfl) trivial ?_
              refine' dl0 (gn rfl) rfl rfl (step_index rfl (ev_mk rfl) (.inl rfl) (ev_mk rfl) Try.underlying44 F.sz3 (by omega) ?hr) trivial ?_
              case hr => exact map_at _ _ _ (by omega) (by omega)
              refine dl0 (gn rfl) rfl rfl (step_load_ro rfl (ev_mk rfl) F.one3 rfl) trivial ?_
              refine dl0 (gn rfl) rfl rfl (step_min rfl (ev_mk rfl) (ev_mk rfl)) trivial ?_
              refine dl0 (gn rfl) rfl rfl (step_mv rfl rfl) trivial ?_
              refine dl0 (gn rfl) rfl rfl (step_mv rfl rfl) trivial ?_
              refine dl0 (gn rfl) rfl rfl (step_mv rfl rfl) trivial ?_
              refine' dl0 (gn rfl) rfl rfl (step_index rfl (ev_mk rfl) (.inl rfl) (ev_mk rfl) Try.underlying44 F.sz3 (by omega) ?hr) trivial ?_
              case hr => exact map_at _ _ _ (by omega) (by omega)
              refine dl0 (gn rfl) rfl rfl (step_load_ro rfl (ev_mk rfl) F.one3 rfl) trivial ?_
              refine dl0 (gn rfl) rfl rfl (step_max rfl (ev_mk rfl) (ev_mk rfl)) trivial ?_
              refine dl0 (gn rfl) rfl rfl (step_as rfl rfl) trivial ?_
              refine dl0 (gn rfl) rfl rfl (step_as rfl rfl) trivial ?_
              refine dlnil ?_ ?_
              · repeat' (first | exact trivial | exact .inr (ap0 _ _ _ _) | exact .inr (ap2 _ _ _ _) | exact .inr (ap3 _ _ _ _) | exact .inr ⟨by first | (simp; done) | (simp; omega), by first | (simp; done) | (simp; omega)⟩ | exact .inl (by kernel_rfl) | refine ⟨?_, ?_⟩ | fail)
              refine runs_region ?_
              refine rl0 (gn rfl) rfl rfl (step_mv rfl rfl) trivial ?_
              refine rl0 (gn rfl) rfl rfl (step_add rfl (ev_mk rfl) (ev_mk rfl) (w64 (by omega))) trivial ?_
              refine rl0 (gn rfl) rfl rfl (step_as rfl rfl) trivial ?_
              refine runsL_nil ?_
              have hq0_ : (allR (n + 10) i) ++ [[V.ref ((n + 10) + i) 0]] = (allR (n + 10) (i + 1)) := by exact allR_s _ _
              have hq1_ : (if (at' l (i : Int)) < (loF l i) then (at' l (i : Int)) else (loF l i)) = loF l (i + 1) := by rfl
              have hq2_ : (if (at' l (i : Int)) > (hiF l i) then (at' l (i : Int)) else (hiF l i)) = hiF l (i + 1) := by rfl
              have hq3_ : ((i : Int) + 1) = ((i + 1) : Int) := by omega
              refine ⟨_, _, ?_, sle ?_ (Nat.le_refl _), (i + 1), (upF (kL l) i (upd1 h i i) i), _, _, rfl, rfl, by omega, (fun k_ hk_ => by repeat (first | exact hf0 k_ hk_ | refine (hfz1 _ (by first | assumption | omega)).trans ?_ | refine uN (by first | assumption | omega) ?_ | fail)), by first | ((repeat (first | exact uE | assumption | refine uN (by omega) ?_ | refine (hfz1 _ (by first | assumption | omega)).trans ?_ | fail)); done) | exact tl_eq (by repeat (first | exact uE | assumption | refine uN (by omega) ?_ | refine (hfz1 _ (by first | assumption | omega)).trans ?_ | fail)) (by first | rfl | (simp [bytesV, beB_len]; done) | (simp [bytesV, beB_len]; omega) | omega) | (rw [← hq0_]; (repeat (first | exact uE | assumption | refine uN (by omega) ?_ | refine (hfz1 _ (by first | assumption | omega)).trans ?_ | fail)); done) | (rw [← hq1_]; (repeat (first | exact uE | assumption | refine uN (by omega) ?_ | refine (hfz1 _ (by first | assumption | omega)).trans ?_ | fail)); done) | (rw [← hq2_]; (repeat (first | exact uE | assumption | refine uN (by omega) ?_ | refine (hfz1 _ (by first | assumption | omega)).trans ?_ | fail)); done) | (rw [← hq3_]; (repeat (first | exact uE | assumption | refine uN (by omega) ?_ | refine (hfz1 _ (by first | assumption | omega)).trans ?_ | fail)); done) | (rw [← hq0_, ← hq1_, ← hq2_, ← hq3_]; (repeat (first | exact uE | assumption | refine uN (by omega) ?_ | refine (hfz1 _ (by first | assumption | omega)).trans ?_ | fail)); done), by first | ((repeat (first | exact uE | assumption | refine uN (by omega) ?_ | refine (hfz1 _ (by first | assumption | omega)).trans ?_ | fail)); done) | exact tl_eq (by repeat (first | exact uE | assumption | refine uN (by omega) ?_ | refine (hfz1 _ (by first | assumption | omega)).trans ?_ | fail)) (by first | rfl | (simp [bytesV, beB_len]; done) | (simp [bytesV, beB_len]; omega) | omega) | (rw [← hq0_]; (repeat (first | exact uE | assumption | refine uN (by omega) ?_ | refine (hfz1 _ (by first | assumption | omega)).trans ?_ | fail)); done) | (rw [← hq1_]; (repeat (first | exact uE | assumption | refine uN (by omega) ?_ | refine (hfz1 _ (by first | assumption | omega)).trans ?_ | fail)); done) | (rw [← hq2_]; (repeat (first | exact uE | assumption | refine uN (by omega) ?_ | refine (hfz1 _ (by first | assumption | omega)).trans ?_ | fail)); done) | (rw [← hq3_]; (repeat (first | exact uE | assumption | refine uN (by omega) ?_ | refine (hfz1 _ (by first | assumption | omega)).trans ?_ | fail)); done) | (rw [← hq0_, ← hq1_, ← hq2_, ← hq3_]; (repeat (first | exact uE | assumption | refine uN (by omega) ?_ | refine (hfz1 _ (by first | assumption | omega)).trans ?_ | fail)); done), by first | ((repeat (first | exact uE | assumption | refine uN (by omega) ?_ | refine (hfz1 _ (by first | assumption | omega)).trans ?_ | fail)); done) | exact tl_eq (by repeat (first | exact uE | assumption | refine uN (by omega) ?_ | refine (hfz1 _ (by first | assumption | omega)).trans ?_ | fail)) (by first | rfl | (simp [bytesV, beB_len]; done) | (simp [bytesV, beB_len]; omega) | omega) | (rw [← hq0_]; (repeat (first | exact uE | assumption | refine uN (by omega) ?_ | refine (hfz1 _ (by first | assumption | omega)).trans ?_ | fail)); done) | (rw [← hq1_]; (repeat (first | exact uE | assumption | refine uN (by omega) ?_ | refine (hfz1 _ (by first | assumption | omega)).trans ?_ | fail)); done) | (rw [← hq2_]; (repeat (first | exact uE | assumption | refine uN (by omega) ?_ | refine (hfz1 _ (by first | assumption | omega)).trans ?_ | fail)); done) | (rw [← hq3_]; (repeat (first | exact uE | assumption | refine uN (by omega) ?_ | refine (hfz1 _ (by first | assumption | omega)).trans ?_ | fail)); done) | (rw [← hq0_, ← hq1_, ← hq2_, ← hq3_]; (repeat (first | exact uE | assumption | refine uN (by omega) ?_ | refine (hfz1 _ (by first | assumption | omega)).trans ?_ | fail)); done), (by omega), hF0_1.put, (fun a_ ha_ => by repeat (first | exact hfam1 a_ ha_ | refine uN (by omega) ?_ | refine (hfz1 _ (by first | assumption | omega)).trans ?_ | fail)), (fun a_ h1_ h2_ => by repeat (first | exact hF0_3 a_ (by omega) h2_ | refine uN (by omega) ?_ | refine (hfz1 _ (by first | assumption | omega)).trans ?_ | fail)), (rng_s hF0_4 hlo_ hhi_)⟩
              · omega
              · (repeat' (first | exact trivial | refine ⟨⟨_, rfl, ?_⟩, ?_⟩ | fail)); all_goals (repeat' (first | exact VLe.refl _ | exact VLe.own_sl _ _ _ | exact VLe.fl_sl _ _ | exact VLe.nil_sl _ | exact VLe.nil_fl _ | exact VLes.refl _ | exact .nil | refine VLe.tup ?_ | refine VLe.agg ?_ | refine .cons ?_ ?_ | (rw [Int.natCast_add]; exact VLe.refl _) | exact vle_int (by omega) | exact vle_bool (by first | rfl | assumption | (simp_all; done) | fail) | (rw [← hq0_]; exact VLe.refl _) | (rw [hq0_]; exact VLe.refl _) | (rw [← hq1_]; exact VLe.refl _) | (rw [hq1_]; exact VLe.refl _) | (rw [← hq2_]; exact VLe.refl _) | (rw [hq2_]; exact VLe.refl _) | (rw [← hq3_]; exact VLe.refl _) | (rw [hq3_]; exact VLe.refl _) | fail))
        · skip
          refine runsL_nil ?_
          refine runs_cond false (ev_mk rfl) (fun h_ => nomatch h_) (fun _ => ?_)
          refine runs_exit ?_
          refine runs_seq ?_
          obtain rfl : i = l.length := by omega
          have hl0_ : 0 < l.length := by omega
          obtain ⟨hqi_, hqn_⟩ := idx_q ha.1 hl0_
          have hbd_ := loF_ge hF0_4 hl0_
          obtain ⟨j_, hj_, hja_⟩ := hF0_1.in hqn_
          have hal_ := hF0_1.ch (x := (hiF l l.length + 1)) hj_ hja_
          refine runs_region ?_
          refine rl0 (gn rfl) rfl rfl (step_mv rfl rfl) trivial ?_
          refine rl0 (gn rfl) rfl rfl (step_conv_id rfl rfl Try.underlying5 Try.underlying3 (w64 (by omega))) trivial ?_
          refine rl0 (gn rfl) rfl rfl (step_mv rfl rfl) trivial ?_
          refine rl0 (gn rfl) rfl rfl (step_len (m := l.length) rfl rfl (ev_mk rfl) (.inl ⟨⟨_, Try.underlying44⟩, .inl ⟨_, _, .inl rfl, List.length_map _⟩⟩)) trivial ?_
          refine rl0 (gn rfl) rfl rfl (step_remw (r := (((ax.toNat % l.length) : Nat) : Int)) rfl (ev_mk rfl) (ev_mk rfl) (by omega) hqi_) trivial ?_
          refine rl0 (gn rfl) rfl rfl (step_as rfl rfl) trivial ?_
          refine runsL_nil ?_
          refine runs_seq ?_
          refine runs_region ?_
          refine rl0 (gn rfl) rfl rfl (step_mv rfl rfl) trivial ?_
          refine rl0 (gn rfl) rfl rfl (step_add rfl (ev_mk rfl) (ev_mk rfl) (w64 (by omega))) trivial ?_
          refine rl0 (gn rfl) rfl rfl (step_as rfl rfl) trivial ?_
          refine runsL_nil ?_
          refine runs_seq ?_
          refine runs_seq ?_
          refine runs_region ?_
          refine rl0 (gn rfl) rfl rfl (step_mv rfl rfl) trivial ?_
          refine runsL_nil ?_
          refine runs_cond false (ev_mk rfl) (fun h_ => nomatch h_) (fun _ => ?_)
          refine runs_skip ?_
          refine runs_seq ?_
          refine runs_seq ?_
          refine runs_region ?_
          refine rl0 (gn rfl) rfl rfl (step_mv rfl rfl) trivial ?_
          refine rl0 (gn rfl) rfl rfl (step_mv rfl rfl) trivial ?_
          refine rl0 (gn rfl) rfl rfl (step_mv rfl rfl) trivial ?_
          refine' rl0 (gn rfl) rfl rfl (step_index (r := [.ref (n + 10 + (ax.toNat % l.length)) 0]) rfl (ev_mk rfl) (.inr (.inr ⟨_, rfl⟩)) (ev_mk rfl) Try.underlying28 F.sz34 (by omega) ?hr) trivial ?_
          case hr => exact allR_at hqn_
          refine rl0 (gn rfl) rfl rfl (step_load_ro rfl (ev_mk rfl) F.one34 rfl) trivial ?_
          refine rl0 (gn rfl) rfl rfl (step_mv rfl rfl) trivial ?_
          refine rl_fam (gn rfl) rfl rfl (step_callc rfl Try.func14 rfl rfl rfl (change_a (kL l) (kgF (kL l) (ax.toNat % l.length) (hiF l l.length + 1)) h (n + 10) (n + 0) (n + 1) l.length l.length l.length l.length j_ (ax.toNat % l.length) hja_ hj_ (Nat.le_refl _) (by omega) hF0_1.inj hF0_1.lt (fun v_ h_ => (kgF_o (by rw [← hja_]; exact h_)).symm) (by omega) (by omega) (by omega)) (by repeat (first | exact .nil | refine .cons ?_ ?_ | exact VLe.refl _ | exact vle_int (by omega) | exact vle_int hki_.symm | exact vle_int (kgF_c _ _ _) | exact vle_int (kgF_c _ _ _).symm | exact VLe.own_sl _ _ _ | exact VLe.fl_sl _ _ | exact VLe.nil_sl _ | exact VLe.nil_fl _ | refine VLe.agg ?_))) ⟨by repeat (first | exact uE | refine uN (by omega) ?_ | assumption | exact hd _ (by omega) | exact hd0 _ (by omega) | fail), by repeat (first | exact uE | refine uN (by omega) ?_ | assumption | exact hd _ (by omega) | exact hd0 _ (by omega) | fail), fam_ok (fun a_ ha_ => by repeat (first | exact hF0_2 a_ ha_ | refine uN (by omega) ?_ | fail))⟩ (by repeat (first | exact trivial | refine ⟨by omega, ?_⟩)) (by omega) (fun bz2 hfam2 hfz2 => ?_)
          simp only [upds] at hfz2
          refine rl0 (gn rfl) rfl rfl (step_unOp (c := .bool false) rfl (ev_mk rfl) (fun _ => rfl)) trivial ?_
          refine runsL_nil ?_
          refine runs_cond false (ev_mk rfl) (fun h_ => nomatch h_) (fun _ => ?_)
          refine runs_skip ?_
          refine runs_seq ?_
          refine runs_seq ?_
          refine runs_region ?_
          refine rl0 (gn rfl) rfl rfl (step_as rfl rfl) trivial ?_
          refine runsL_nil ?_
          refine runs_block ?_
          have hs0_ : 0 = (0 : Int) := by first | rfl | omega
          refine runs_loop (fun (ri_ : Nat) (st_ : Go.Vm.S) => ∃ (z : Nat) (m1 : Nat) (b1 : Nat → Box), (st_ = ⟨mk [(0, .sl 1 (l.map iR)), (2, .sc (.bool false)), (6, .sc (.bool false)), (7, .ref (n + 0) 0), (8, .own 1 (allR (n + 10) l.length) (n + 2)), (9, .sl 2 ((lsK (kgF (kL l) (ax.toNat % l.length) (hiF l l.length + 1)) z).map itR)), (13, .sc (.int .i64 (((ax.toNat % l.length) : Nat) : Int))), (14, .sc (.int .i64 ((hiF l l.length) + 1))), (15, .sc (.int .i64 (z : Int)))], m1, b1⟩) ∧ (ri_ = 1 + (l.length - z)) ∧ (m0 + 0 ≤ m1) ∧ (∀ k_, k_ < n → b1 k_ = bx k_) ∧ (b1 (n + 0) = .cells [.gsl (n + 1) l.length 0 l.length 1, .sc (.func (.func 8) #[] #[]), .sc (.int .i64 (l.length : Int))]) ∧ (b1 (n + 1) = .gcells l.length 1 (rowsH (n + 10) (chF (kgF (kL l) (ax.toNat % l.length) (hiF l l.length + 1)) h l.length j_) l.length)) ∧ (b1 (n + 2) = .tail (allR (n + 10) l.length).length) ∧ (z ≤ l.length) ∧ (∀ a, a < l.length → b1 (n + 10 + a) = .cells (itC (kgF (kL l) (ax.toNat % l.length) (hiF l l.length + 1)) (chF (kgF (kL l) (ax.toNat % l.length) (hiF l l.length + 1)) h l.length j_) l.length a))) (1 + (l.length - 0)) ⟨_, sle ?_ (Nat.le_refl _), 0, _, _, rfl, rfl, ?_⟩ ?_
          · (repeat' (first | exact trivial | refine ⟨⟨_, rfl, ?_⟩, ?_⟩ | fail)); all_goals (repeat' (first | exact VLe.refl _ | exact VLe.own_sl _ _ _ | exact VLe.fl_sl _ _ | exact VLe.nil_sl _ | exact VLe.nil_fl _ | exact VLes.refl _ | exact .nil | refine VLe.tup ?_ | refine VLe.agg ?_ | refine .cons ?_ ?_ | (rw [Int.natCast_add]; exact VLe.refl _) | exact vle_int (by omega) | exact vle_bool (by first | rfl | assumption | (simp_all; done) | fail) | (rw [← hs0_]; exact VLe.refl _) | (rw [hs0_]; exact VLe.refl _) | fail))
          · exact ⟨by omega, (fun k_ hk_ => by repeat (first | exact rfl | refine uN (by omega) ?_ | assumption | exact hf0 _ (by omega) | refine (hfz2 _ (by first | assumption | omega)).trans ?_ | fail)), by first | ((repeat (first | exact uE | assumption | refine uN (by omega) ?_ | refine (hfz2 _ (by first | assumption | omega)).trans ?_ | fail)); done) | exact tl_eq (by repeat (first | exact uE | assumption | refine uN (by omega) ?_ | refine (hfz2 _ (by first | assumption | omega)).trans ?_ | fail)) (by first | rfl | (simp [bytesV, beB_len]; done) | (simp [bytesV, beB_len]; omega) | omega) | (rw [← hs0_]; (repeat (first | exact uE | assumption | refine uN (by omega) ?_ | refine (hfz2 _ (by first | assumption | omega)).trans ?_ | fail)); done), by first | ((repeat (first | exact uE | assumption | refine uN (by omega) ?_ | refine (hfz2 _ (by first | assumption | omega)).trans ?_ | fail)); done) | exact tl_eq (by repeat (first | exact uE | assumption | refine uN (by omega) ?_ | refine (hfz2 _ (by first | assumption | omega)).trans ?_ | fail)) (by first | rfl | (simp [bytesV, beB_len]; done) | (simp [bytesV, beB_len]; omega) | omega) | (rw [← hs0_]; (repeat (first | exact uE | assumption | refine uN (by omega) ?_ | refine (hfz2 _ (by first | assumption | omega)).trans ?_ | fail)); done), by first | ((repeat (first | exact uE | assumption | refine uN (by omega) ?_ | refine (hfz2 _ (by first | assumption | omega)).trans ?_ | fail)); done) | exact tl_eq (by repeat (first | exact uE | assumption | refine uN (by omega) ?_ | refine (hfz2 _ (by first | assumption | omega)).trans ?_ | fail)) (by first | rfl | (simp [bytesV, beB_len]; done) | (simp [bytesV, beB_len]; omega) | omega) | (rw [← hs0_]; (repeat (first | exact uE | assumption | refine uN (by omega) ?_ | refine (hfz2 _ (by first | assumption | omega)).trans ?_ | fail)); done), (by omega), (fun a_ ha_ => by repeat (first | exact hfam2 a_ ha_ | refine uN (by omega) ?_ | refine (hfz2 _ (by first | assumption | omega)).trans ?_ | fail))⟩
          · rintro _ _ ⟨z, m1, b1, rfl, rfl, hm1, hf1, hB1_0, hB1_1, hB1_2, hF1_0, hF1_1⟩
            refine runs_know (fun hd1 => ?_)
            refine runs_bump 20 ?_
            simp only at hd1
            refine runs_seq ?_
            refine runs_seq ?_
            refine runs_region ?_
            refine rl0 (gn rfl) rfl rfl (step_mv rfl rfl) trivial ?_
            refine rl0 (gn rfl) rfl rfl (step_mv rfl rfl) trivial ?_
            refine rl0 (gn rfl) rfl rfl (step_len (m := l.length) rfl rfl (ev_mk rfl) (.inl ⟨⟨_, Try.underlying44⟩, .inl ⟨_, _, .inl rfl, List.length_map _⟩⟩)) trivial ?_
            refine rl_lss (gn rfl) rfl rfl rfl rfl rfl (fun h4 => ?_) (fun h4 => ?_)
            · skip
              refine runsL_nil ?_
              refine runs_cond true (ev_mk rfl) (fun _ => ?_) (fun h_ => nomatch h_)
              refine runs_skip ?_
              refine runs_seq ?_
              refine runs_block ?_
              refine runs_seq ?_
              refine runs_region ?_
              refine rl0 (gn rfl) rfl rfl (step_mv rfl rfl) trivial ?_
              refine rl0 (gn rfl) rfl rfl (step_mv rfl rfl) trivial ?_
              refine' rl0 (gn rfl) rfl rfl (step_index rfl (ev_mk rfl) (.inl rfl) (ev_mk rfl) Try.underlying44 F.sz3 (by omega) ?hr) trivial ?_
              case hr => exact map_at _ _ _ (by omega) (by omega)
              refine rl0 (gn rfl) rfl rfl (step_load_ro rfl (ev_mk rfl) F.one3 rfl) trivial ?_
              refine rl0 (gn rfl) rfl rfl (step_as rfl rfl) trivial ?_
              refine runsL_nil ?_
              refine runs_seq ?_
              refine runs_seq ?_
              refine runs_region ?_
              refine rl0 (gn rfl) rfl rfl (step_mv rfl rfl) trivial ?_
              refine rl0 (gn rfl) rfl rfl (step_mv rfl rfl) trivial ?_
              refine rl_eql (gn rfl) rfl rfl rfl rfl rfl (fun h5 => ?_) (fun h5 => ?_)
              · skip
                have hki_ : (kgF (kL l) (ax.toNat % l.length) (hiF l l.length + 1)) z = (hiF l l.length + 1) := (by rw [show z = (ax.toNat % l.length) by omega]; exact kgF_c _ _ _)
                refine runsL_nil ?_
                refine runs_cond true (ev_mk rfl) (fun _ => ?_) (fun h_ => nomatch h_)
                refine runs_region ?_
                refine rl0 (gn rfl) rfl rfl (step_mv rfl rfl) trivial ?_
                refine rl0 (gn rfl) rfl rfl (step_as rfl rfl) trivial ?_
                refine runsL_nil ?_
                refine runs_region ?_
                refine rl0 (gn rfl) rfl rfl (step_mv rfl rfl) trivial ?_
                refine rl0 (gn rfl) rfl rfl (step_mv rfl rfl) trivial ?_
                refine rl0 (gn rfl) rfl rfl (step_mv rfl rfl) trivial ?_
                refine rl0 (gn rfl) rfl rfl (step_build (ss := [1, 1]) (zs := [.int .i64 0, .int .i64 0]) rfl Try.underlying33 (by kernel_rfl) F.zero33 rfl rfl rfl) trivial ?_
                refine rl0 (gn rfl) rfl rfl (step_callc rfl Try.func9 rfl rfl rfl (insert_c (lsK (kgF (kL l) (ax.toNat % l.length) (hiF l l.length + 1)) z) ⟨(kgF (kL l) (ax.toNat % l.length) (hiF l l.length + 1)) z, z⟩ (by rw [lsK_len]; omega)) (by repeat (first | exact .nil | refine .cons ?_ ?_ | exact VLe.refl _ | exact vle_int (by omega) | exact vle_int hki_.symm | exact vle_int (kgF_c _ _ _) | exact vle_int (kgF_c _ _ _).symm | exact VLe.own_sl _ _ _ | exact VLe.fl_sl _ _ | exact VLe.nil_sl _ | exact VLe.nil_fl _ | refine VLe.agg ?_))) trivial ?_
                refine rl0 (gn rfl) rfl rfl (step_as rfl rfl) trivial ?_
                refine runsL_nil ?_
                refine runs_region ?_
                refine rl0 (gn rfl) rfl rfl (step_mv rfl rfl) trivial ?_
                refine rl0 (gn rfl) rfl rfl (step_add rfl (ev_mk rfl) (ev_mk rfl) (w64 (by omega))) trivial ?_
                refine rl0 (gn rfl) rfl rfl (step_as rfl rfl) trivial ?_
                refine runsL_nil ?_
                have hq0_ : ((insR (lsK (kgF (kL l) (ax.toNat % l.length) (hiF l l.length + 1)) z) ⟨(kgF (kL l) (ax.toNat % l.length) (hiF l l.length + 1)) z, z⟩).map itR) = ((lsK (kgF (kL l) (ax.toNat % l.length) (hiF l l.length + 1)) (z + 1)).map itR) := by first | rfl | omega
                have hq1_ : ((z : Int) + 1) = ((z + 1) : Int) := by first | rfl | omega
                refine ⟨_, _, ?_, sle ?_ (Nat.le_refl _), (z + 1), _, _, rfl, rfl, by omega, (fun k_ hk_ => by repeat (first | exact hf1 k_ hk_ | exact hf0 k_ hk_ | refine uN (by first | assumption | omega) ?_ | fail)), by first | ((repeat (first | exact uE | assumption | refine uN (by omega) ?_ | fail)); done) | exact tl_eq (by repeat (first | exact uE | assumption | refine uN (by omega) ?_ | fail)) (by first | rfl | (simp [bytesV, beB_len]; done) | (simp [bytesV, beB_len]; omega) | omega) | (rw [← hq0_]; (repeat (first | exact uE | assumption | refine uN (by omega) ?_ | fail)); done) | (rw [← hq1_]; (repeat (first | exact uE | assumption | refine uN (by omega) ?_ | fail)); done) | (rw [← hq0_, ← hq1_]; (repeat (first | exact uE | assumption | refine uN (by omega) ?_ | fail)); done), by first | ((repeat (first | exact uE | assumption | refine uN (by omega) ?_ | fail)); done) | exact tl_eq (by repeat (first | exact uE | assumption | refine uN (by omega) ?_ | fail)) (by first | rfl | (simp [bytesV, beB_len]; done) | (simp [bytesV, beB_len]; omega) | omega) | (rw [← hq0_]; (repeat (first | exact uE | assumption | refine uN (by omega) ?_ | fail)); done) | (rw [← hq1_]; (repeat (first | exact uE | assumption | refine uN (by omega) ?_ | fail)); done) | (rw [← hq0_, ← hq1_]; (repeat (first | exact uE | assumption | refine uN (by omega) ?_ | fail)); done), by first | ((repeat (first | exact uE | assumption | refine uN (by omega) ?_ | fail)); done) | exact tl_eq (by repeat (first | exact uE | assumption | refine uN (by omega) ?_ | fail)) (by first | rfl | (simp [bytesV, beB_len]; done) | (simp [bytesV, beB_len]; omega) | omega) | (rw [← hq0_]; (repeat (first | exact uE | assumption | refine uN (by omega) ?_ | fail)); done) | (rw [← hq1_]; (repeat (first | exact uE | assumption | refine uN (by omega) ?_ | fail)); done) | (rw [← hq0_, ← hq1_]; (repeat (first | exact uE | assumption | refine uN (by omega) ?_ | fail)); done), (by omega), (fun a_ ha_ => by repeat (first | exact hF1_1 a_ ha_ | refine uN (by omega) ?_ | fail))⟩
                · omega
                · (repeat' (first | exact trivial | refine ⟨⟨_, rfl, ?_⟩, ?_⟩ | fail)); all_goals (repeat' (first | exact VLe.refl _ | exact VLe.own_sl _ _ _ | exact VLe.fl_sl _ _ | exact VLe.nil_sl _ | exact VLe.nil_fl _ | exact VLes.refl _ | exact .nil | refine VLe.tup ?_ | refine VLe.agg ?_ | refine .cons ?_ ?_ | (rw [Int.natCast_add]; exact VLe.refl _) | exact vle_int (by omega) | exact vle_bool (by first | rfl | assumption | (simp_all; done) | fail) | (rw [← hq0_]; exact VLe.refl _) | (rw [hq0_]; exact VLe.refl _) | (rw [← hq1_]; exact VLe.refl _) | (rw [hq1_]; exact VLe.refl _) | fail))
              · skip
                have hki_ : (kgF (kL l) (ax.toNat % l.length) (hiF l l.length + 1)) z = at' l (z : Int) := kgF_o (by omega)
                refine runsL_nil ?_
                refine runs_cond false (ev_mk rfl) (fun h_ => nomatch h_) (fun _ => ?_)
                refine runs_skip ?_
                refine runs_region ?_
                refine rl0 (gn rfl) rfl rfl (step_mv rfl rfl) trivial ?_
                refine rl0 (gn rfl) rfl rfl (step_mv rfl rfl) trivial ?_
                refine rl0 (gn rfl) rfl rfl (step_mv rfl rfl) trivial ?_
                refine rl0 (gn rfl) rfl rfl (step_build (ss := [1, 1]) (zs := [.int .i64 0, .int .i64 0]) rfl Try.underlying33 (by kernel_rfl) F.zero33 rfl rfl rfl) trivial ?_
                refine rl0 (gn rfl) rfl rfl (step_callc rfl Try.func9 rfl rfl rfl (insert_c (lsK (kgF (kL l) (ax.toNat % l.length) (hiF l l.length + 1)) z) ⟨(kgF (kL l) (ax.toNat % l.length) (hiF l l.length + 1)) z, z⟩ (by rw [lsK_len]; omega)) (by repeat (first | exact .nil | refine .cons ?_ ?_ | exact VLe.refl _ | exact vle_int (by omega) | exact vle_int hki_.symm | exact vle_int (kgF_c _ _ _) | exact vle_int (kgF_c _ _ _).symm | exact VLe.own_sl _ _ _ | exact VLe.fl_sl _ _ | exact VLe.nil_sl _ | exact VLe.nil_fl _ | refine VLe.agg ?_))) trivial ?_
                refine rl0 (gn rfl) rfl rfl (step_as rfl rfl) trivial ?_
                refine runsL_nil ?_
                refine runs_region ?_
                refine rl0 (gn rfl) rfl rfl (step_mv rfl rfl) trivial ?_
                refine rl0 (gn rfl) rfl rfl (step_add rfl (ev_mk rfl) (ev_mk rfl) (w64 (by omega))) trivial ?_
                refine rl0 (gn rfl) rfl rfl (step_as rfl rfl) trivial ?_
                refine runsL_nil ?_
                have hq0_ : ((insR (lsK (kgF (kL l) (ax.toNat % l.length) (hiF l l.length + 1)) z) ⟨(kgF (kL l) (ax.toNat % l.length) (hiF l l.length + 1)) z, z⟩).map itR) = ((lsK (kgF (kL l) (ax.toNat % l.length) (hiF l l.length + 1)) (z + 1)).map itR) := by first | rfl | omega
                have hq1_ : ((z : Int) + 1) = ((z + 1) : Int) := by first | rfl | omega
                refine ⟨_, _, ?_, sle ?_ (Nat.le_refl _), (z + 1), _, _, rfl, rfl, by omega, (fun k_ hk_ => by repeat (first | exact hf1 k_ hk_ | exact hf0 k_ hk_ | refine uN (by first | assumption | omega) ?_ | fail)), by first | ((repeat (first | exact uE | assumption | refine uN (by omega) ?_ | fail)); done) | exact tl_eq (by repeat (first | exact uE | assumption | refine uN (by omega) ?_ | fail)) (by first | rfl | (simp [bytesV, beB_len]; done) | (simp [bytesV, beB_len]; omega) | omega) | (rw [← hq0_]; (repeat (first | exact uE | assumption | refine uN (by omega) ?_ | fail)); done) | (rw [← hq1_]; (repeat (first | exact uE | assumption | refine uN (by omega) ?_ | fail)); done) | (rw [← hq0_, ← hq1_]; (repeat (first | exact uE | assumption | refine uN (by omega) ?_ | fail)); done), by first | ((repeat (first | exact uE | assumption | refine uN (by omega) ?_ | fail)); done) | exact tl_eq (by repeat (first | exact uE | assumption | refine uN (by omega) ?_ | fail)) (by first | rfl | (simp [bytesV, beB_len]; done) | (simp [bytesV, beB_len]; omega) | omega) | (rw [← hq0_]; (repeat (first | exact uE | assumption | refine uN (by omega) ?_ | fail)); done) | (rw [← hq1_]; (repeat (first | exact uE | assumption | refine uN (by omega) ?_ | fail)); done) | (rw [← hq0_, ← hq1_]; (repeat (first | exact uE | assumption | refine uN (by omega) ?_ | fail)); done), by first | ((repeat (first | exact uE | assumption | refine uN (by omega) ?_ | fail)); done) | exact tl_eq (by repeat (first | exact uE | assumption | refine uN (by omega) ?_ | fail)) (by first | rfl | (simp [bytesV, beB_len]; done) | (simp [bytesV, beB_len]; omega) | omega) | (rw [← hq0_]; (repeat (first | exact uE | assumption | refine uN (by omega) ?_ | fail)); done) | (rw [← hq1_]; (repeat (first | exact uE | assumption | refine uN (by omega) ?_ | fail)); done) | (rw [← hq0_, ← hq1_]; (repeat (first | exact uE | assumption | refine uN (by omega) ?_ | fail)); done), (by omega), (fun a_ ha_ => by repeat (first | exact hF1_1 a_ ha_ | refine uN (by omega) ?_ | fail))⟩
                · omega
                · (repeat' (first | exact trivial | refine ⟨⟨_, rfl, ?_⟩, ?_⟩ | fail)); all_goals (repeat' (first | exact VLe.refl _ | exact VLe.own_sl _ _ _ | exact VLe.fl_sl _ _ | exact VLe.nil_sl _ | exact VLe.nil_fl _ | exact VLes.refl _ | exact .nil | refine VLe.tup ?_ | refine VLe.agg ?_ | refine .cons ?_ ?_ | (rw [Int.natCast_add]; exact VLe.refl _) | exact vle_int (by omega) | exact vle_bool (by first | rfl | assumption | (simp_all; done) | fail) | (rw [← hq0_]; exact VLe.refl _) | (rw [hq0_]; exact VLe.refl _) | (rw [← hq1_]; exact VLe.refl _) | (rw [hq1_]; exact VLe.refl _) | fail))
            · skip
              refine runsL_nil ?_
              refine runs_cond false (ev_mk rfl) (fun h_ => nomatch h_) (fun _ => ?_)
              refine runs_exit ?_
              refine runs_seq ?_
              refine runs_seq ?_
              obtain rfl : z = l.length := by omega
              have hhq_ := last_q (kf := (kgF (kL l) (ax.toNat % l.length) (hiF l l.length + 1))) hqn_ (fun a_ h1_ h2_ => by rw [kgF_c, kgF_o h2_]; have := hiF_le l l.length a_ h1_; omega)
              have hml0_ := lsK_len (kgF (kL l) (ax.toNat % l.length) (hiF l l.length + 1)) l.length
              refine runs_region ?_
              refine rl0 (gn rfl) rfl rfl (step_mv rfl rfl) trivial ?_
              refine rl0 (gn rfl) rfl rfl (step_mv rfl rfl) trivial ?_
              refine rlk rfl rfl rfl rfl rfl (ngb rfl rfl) rfl rfl ?_
              refine rlk rfl rfl rfl rfl rfl (ngb rfl rfl) rfl rfl ?_
              refine rlk rfl rfl rfl rfl rfl (ngb rfl rfl) rfl rfl ?_
              refine rlk rfl rfl rfl rfl rfl (ngb rfl rfl) rfl rfl ?_
              refine rlk rfl rfl rfl rfl rfl (ngb rfl rfl) rfl rfl ?_
              refine rlk rfl rfl rfl rfl rfl (ngb rfl rfl) rfl rfl ?_
              refine rl0 (gn rfl) rfl rfl (step_pick rfl (ev_mk rfl) (ev_mk rfl)) trivial ?_
              refine rl0 (gn rfl) rfl rfl (step_mv rfl rfl) trivial ?_
              refine rl0 (gy rfl rfl rfl rfl rfl rfl) rfl rfl (step_mv rfl rfl) trivial ?_
              refine rl0 (gy rfl rfl rfl rfl rfl rfl) rfl rfl (step_unOp (c := .bool true) rfl (ev_mk rfl) (fun _ => rfl)) trivial ?_
              refine rl0 (gy rfl rfl rfl rfl rfl rfl) rfl rfl (step_mv rfl rfl) trivial ?_
              refine rl0 (gy rfl rfl rfl rfl rfl rfl) rfl rfl (step_mv rfl rfl) trivial ?_
              refine rl0 (gy rfl rfl rfl rfl rfl rfl) rfl rfl (step_mv rfl rfl) trivial ?_
              refine rl0 (gy rfl rfl rfl rfl rfl rfl) rfl rfl (step_len (m := l.length) rfl rfl (ev_mk rfl) (.inl ⟨⟨_, Try.underlying27⟩, .inl ⟨_, _, .inl rfl, (by rw [List.length_map, lsK_len])⟩⟩)) trivial ?_
              refine rl0 (gy rfl rfl rfl rfl rfl rfl) rfl rfl (step_sub rfl (ev_mk rfl) (ev_mk rfl) (w64 (by omega))) trivial ?_
              refine' rl0 (gy rfl rfl rfl rfl rfl rfl) rfl rfl (step_index rfl (ev_mk rfl) (.inl rfl) (ev_mk rfl) Try.underlying27 F.sz33 (by omega) ?hr) trivial ?_
              case hr => exact map_at _ _ _ (by omega) (by omega)
              refine rl0 (gy rfl rfl rfl rfl rfl rfl) rfl rfl (step_fieldAddr_ro (off := 1) rfl (ev_mk rfl) Try.underlying33 rfl F.sz3 rfl rfl) trivial ?_
              refine rl0 (gy rfl rfl rfl rfl rfl rfl) rfl rfl (step_load_ro rfl (ev_mk rfl) F.one3 rfl) trivial ?_
              refine rl0 (gy rfl rfl rfl rfl rfl rfl) rfl rfl (step_mv rfl rfl) trivial ?_
              refine rl_neq (gy rfl rfl rfl rfl rfl rfl) rfl rfl rfl rfl rfl (fun h5 => ?_) (fun h5 => ?_)
              · exact False.elim (by (have q_ := congrArg (fun z_ : Nat => (z_ : Int)) hhq_; omega))
              refine rl0 (gy rfl rfl rfl rfl rfl rfl) rfl rfl (step_pick rfl (ev_mk rfl) (ev_mk rfl)) trivial ?_
              refine rl0 (gn rfl) rfl rfl (step_pick rfl (ev_mk rfl) (ev_mk rfl)) trivial ?_
              refine runsL_nil ?_
              refine runs_cond false (ev_mk rfl) (fun h_ => nomatch h_) (fun _ => ?_)
              refine runs_skip ?_
              refine runs_seq ?_
              refine runs_seq ?_
              refine runs_region ?_
              refine rl0 (gn rfl) rfl rfl (step_as rfl rfl) trivial ?_
              refine runsL_nil ?_
              refine runs_block ?_
              have hs0_ : 0 = (0 : Int) := by first | rfl | omega
              have hs1_ : l.length = l.length - 0 := by first | rfl | omega
              refine runs_loop (fun (ri_ : Nat) (st_ : Go.Vm.S) => ∃ (y : Nat) (g : Nat → Nat) (m2 : Nat) (b2 : Nat → Box), (st_ = ⟨mk [(6, .sc (.bool false)), (7, .ref (n + 0) 0), (8, .own 1 (allR (n + 10) l.length) (n + 2)), (9, .sl 2 ((lsK (kgF (kL l) (ax.toNat % l.length) (hiF l l.length + 1)) l.length).map itR)), (17, .sc (.int .i64 (y : Int)))], m2, b2⟩) ∧ (ri_ = 1 + (l.length - y)) ∧ (m1 + 0 ≤ m2) ∧ (∀ k_, k_ < n → b2 k_ = bx k_) ∧ (b2 (n + 0) = .cells [.gsl (n + 1) l.length 0 (l.length - y) 1, .sc (.func (.func 8) #[] #[]), .sc (.int .i64 (l.length : Int))]) ∧ (b2 (n + 1) = .gcells l.length 1 (rowsH (n + 10) g l.length)) ∧ (b2 (n + 2) = .tail (allR (n + 10) l.length).length) ∧ (y ≤ l.length) ∧ (Hst (kgF (kL l) (ax.toNat % l.length) (hiF l l.length + 1)) g (l.length - y) l.length l.length ((lsK (kgF (kL l) (ax.toNat % l.length) (hiF l l.length + 1)) l.length).drop y)) ∧ (∀ a, a < l.length → b2 (n + 10 + a) = .cells (itC (kgF (kL l) (ax.toNat % l.length) (hiF l l.length + 1)) g (l.length - y) a))) (1 + (l.length - 0)) ⟨_, sle ?_ (Nat.le_refl _), 0, (chF (kgF (kL l) (ax.toNat % l.length) (hiF l l.length + 1)) h l.length j_), _, _, rfl, rfl, ?_⟩ ?_
              · (repeat' (first | exact trivial | refine ⟨⟨_, rfl, ?_⟩, ?_⟩ | fail)); all_goals (repeat' (first | exact VLe.refl _ | exact VLe.own_sl _ _ _ | exact VLe.fl_sl _ _ | exact VLe.nil_sl _ | exact VLe.nil_fl _ | exact VLes.refl _ | exact .nil | refine VLe.tup ?_ | refine VLe.agg ?_ | refine .cons ?_ ?_ | (rw [Int.natCast_add]; exact VLe.refl _) | exact vle_int (by omega) | exact vle_bool (by first | rfl | assumption | (simp_all; done) | fail) | (rw [← hs0_]; exact VLe.refl _) | (rw [hs0_]; exact VLe.refl _) | (rw [← hs1_]; exact VLe.refl _) | (rw [hs1_]; exact VLe.refl _) | fail))
              · exact ⟨by omega, (fun k_ hk_ => by repeat (first | exact rfl | refine uN (by omega) ?_ | assumption | exact hf0 _ (by omega) | exact hf1 _ (by omega) | fail)), by first | ((repeat (first | exact uE | assumption | refine uN (by omega) ?_ | fail)); done) | exact tl_eq (by repeat (first | exact uE | assumption | refine uN (by omega) ?_ | fail)) (by first | rfl | (simp [bytesV, beB_len]; done) | (simp [bytesV, beB_len]; omega) | omega) | (rw [← hs0_]; (repeat (first | exact uE | assumption | refine uN (by omega) ?_ | fail)); done) | (rw [← hs1_]; (repeat (first | exact uE | assumption | refine uN (by omega) ?_ | fail)); done) | (rw [← hs0_, ← hs1_]; (repeat (first | exact uE | assumption | refine uN (by omega) ?_ | fail)); done), by first | ((repeat (first | exact uE | assumption | refine uN (by omega) ?_ | fail)); done) | exact tl_eq (by repeat (first | exact uE | assumption | refine uN (by omega) ?_ | fail)) (by first | rfl | (simp [bytesV, beB_len]; done) | (simp [bytesV, beB_len]; omega) | omega) | (rw [← hs0_]; (repeat (first | exact uE | assumption | refine uN (by omega) ?_ | fail)); done) | (rw [← hs1_]; (repeat (first | exact uE | assumption | refine uN (by omega) ?_ | fail)); done) | (rw [← hs0_, ← hs1_]; (repeat (first | exact uE | assumption | refine uN (by omega) ?_ | fail)); done), by first | ((repeat (first | exact uE | assumption | refine uN (by omega) ?_ | fail)); done) | exact tl_eq (by repeat (first | exact uE | assumption | refine uN (by omega) ?_ | fail)) (by first | rfl | (simp [bytesV, beB_len]; done) | (simp [bytesV, beB_len]; omega) | omega) | (rw [← hs0_]; (repeat (first | exact uE | assumption | refine uN (by omega) ?_ | fail)); done) | (rw [← hs1_]; (repeat (first | exact uE | assumption | refine uN (by omega) ?_ | fail)); done) | (rw [← hs0_, ← hs1_]; (repeat (first | exact uE | assumption | refine uN (by omega) ?_ | fail)); done), (by omega), hal_, (fun a_ ha_ => by repeat (first | exact hF1_1 a_ ha_ | refine uN (by omega) ?_ | fail))⟩
              · rintro _ _ ⟨y, g, m2, b2, rfl, rfl, hm2, hf2, hB2_0, hB2_1, hB2_2, hF2_0, hF2_1, hF2_2⟩
                refine runs_know (fun hd2 => ?_)
                refine runs_bump 20 ?_
                simp only at hd2
                refine runs_seq ?_
                refine runs_seq ?_
                refine runs_region ?_
                refine rl0 (gn rfl) rfl rfl (step_mv rfl rfl) trivial ?_
                refine rl0 (gn rfl) rfl rfl (step_mv rfl rfl) trivial ?_
                refine rl0 (gn rfl) rfl rfl (step_len (m := l.length) rfl rfl (ev_mk rfl) (.inl ⟨⟨_, Try.underlying27⟩, .inl ⟨_, _, .inl rfl, (by rw [List.length_map, lsK_len])⟩⟩)) trivial ?_
                refine rl_lss (gn rfl) rfl rfl rfl rfl rfl (fun h6 => ?_) (fun h6 => ?_)
                · skip
                  refine runsL_nil ?_
                  refine runs_cond true (ev_mk rfl) (fun _ => ?_) (fun h_ => nomatch h_)
                  refine runs_skip ?_
                  refine runs_seq ?_
                  refine runs_block ?_
                  refine runs_seq ?_
                  refine runs_region ?_
                  refine rl0 (gn rfl) rfl rfl (step_mv rfl rfl) trivial ?_
                  refine rl_fam (gn rfl) rfl rfl (step_callc rfl Try.func11 rfl rfl rfl (pop_c (kgF (kL l) (ax.toNat % l.length) (hiF l l.length + 1)) g (n + 10) (n + 0) (n + 1) l.length (l.length - y) l.length l.length hF2_1.le (by omega) hF2_1.inj hF2_1.lt (by omega) (by omega) (by omega)) (by repeat (first | exact .nil | refine .cons ?_ ?_ | exact VLe.refl _ | exact vle_int (by omega) | exact vle_int hki_.symm | exact vle_int (kgF_c _ _ _) | exact vle_int (kgF_c _ _ _).symm | exact VLe.own_sl _ _ _ | exact VLe.fl_sl _ _ | exact VLe.nil_sl _ | exact VLe.nil_fl _ | refine VLe.agg ?_))) ⟨by repeat (first | exact uE | refine uN (by omega) ?_ | assumption | exact hd _ (by omega) | exact hd0 _ (by omega) | exact hd1 _ (by omega) | exact hd2 _ (by omega) | fail), by repeat (first | exact uE | refine uN (by omega) ?_ | assumption | exact hd _ (by omega) | exact hd0 _ (by omega) | exact hd1 _ (by omega) | exact hd2 _ (by omega) | fail), fam_ok (fun a_ ha_ => by repeat (first | exact hF2_2 a_ ha_ | refine uN (by omega) ?_ | fail))⟩ (by repeat (first | exact trivial | refine ⟨by omega, ?_⟩)) (by omega) (fun bz3 hfam3 hfz3 => ?_)
                  simp only [upds] at hfz3
                  have hst_ := hF2_1.popi (by omega)
                  have hgn_ := gone hst_ (show y < l.length by omega)
                  have hml_ := lsK_len (kgF (kL l) (ax.toNat % l.length) (hiF l l.length + 1)) l.length
                  obtain ⟨w_, hw_, hwe_⟩ := lsK_mem.1 (at_mem (m := (lsK (kgF (kL l) (ax.toNat % l.length) (hiF l l.length + 1)) l.length)) (i := y) (by omega))
                  have hwn_ : (at' (lsK (kgF (kL l) (ax.toNat % l.length) (hiF l l.length + 1)) l.length) (y : Int)).n < l.length := by rw [hwe_]; exact hw_
                  refine rl0 (gn rfl) rfl rfl (step_mv rfl rfl) trivial ?_
                  refine rl0 (gn rfl) rfl rfl (step_extract rfl (ev_mk rfl) rfl) trivial ?_
                  refine rl0 (gn rfl) rfl rfl (step_extract rfl (ev_mk rfl) rfl) trivial ?_
                  refine rl_know (d := 149) (c := true) rfl (decide_eq_true (by omega)) ?_
                  refine rl0 (gn rfl) rfl rfl (step_as rfl rfl) trivial ?_
                  refine rl0 (gn rfl) rfl rfl (step_as rfl rfl) trivial ?_
                  refine runsL_nil ?_
                  refine runs_seq ?_
                  refine runs_region ?_
                  refine rl0 (gn rfl) rfl rfl (step_mv rfl rfl) trivial ?_
                  refine rl0 (gn rfl) rfl rfl (step_unOp (c := .bool false) rfl (ev_mk rfl) (fun _ => rfl)) trivial ?_
                  refine rl0 (gn rfl) rfl rfl (step_mv rfl rfl) trivial ?_
                  refine rl0 (gy rfl rfl rfl rfl rfl rfl) rfl rfl (step_mv rfl rfl) trivial ?_
                  refine rl0 (gy rfl rfl rfl rfl rfl rfl) rfl rfl (step_mv rfl rfl) trivial ?_
                  refine rl0 (gy rfl rfl rfl rfl rfl rfl) rfl rfl (step_mv rfl rfl) trivial ?_
                  refine' rl0 (gy rfl rfl rfl rfl rfl rfl) rfl rfl (step_index rfl (ev_mk rfl) (.inl rfl) (ev_mk rfl) Try.underlying27 F.sz33 (by omega) ?hr) trivial ?_
                  case hr => exact map_at _ _ _ (by omega) (by omega)
                  refine rl0 (gy rfl rfl rfl rfl rfl rfl) rfl rfl (step_fieldAddr_ro (off := 0) rfl (ev_mk rfl) Try.underlying33 rfl F.sz3 rfl rfl) trivial ?_
                  refine rl0 (gy rfl rfl rfl rfl rfl rfl) rfl rfl (step_load_ro rfl (ev_mk rfl) F.one3 rfl) trivial ?_
                  refine rl_neq (gy rfl rfl rfl rfl rfl rfl) rfl rfl rfl rfl rfl (fun h7 => ?_) (fun h7 => ?_)
                  · exact False.elim (by (have q_ := (hF2_1.top (by omega)).1; rw [at_drop] at q_; exact absurd q_ h7))
                  refine rl0 (gn rfl) rfl rfl (step_pick rfl (ev_mk rfl) (ev_mk rfl)) trivial ?_
                  refine rl0 (gn rfl) rfl rfl (step_mv rfl rfl) trivial ?_
                  refine rl0 (gy rfl rfl rfl rfl rfl rfl) rfl rfl (step_mv rfl rfl) trivial ?_
                  refine rl0 (gy rfl rfl rfl rfl rfl rfl) rfl rfl (step_mv rfl rfl) trivial ?_
                  refine rl0 (gy rfl rfl rfl rfl rfl rfl) rfl rfl (step_mv rfl rfl) trivial ?_
                  refine' rl0 (gy rfl rfl rfl rfl rfl rfl) rfl rfl (step_index rfl (ev_mk rfl) (.inl rfl) (ev_mk rfl) Try.underlying27 F.sz33 (by omega) ?hr) trivial ?_
                  case hr => exact map_at _ _ _ (by omega) (by omega)
                  refine rl0 (gy rfl rfl rfl rfl rfl rfl) rfl rfl (step_fieldAddr_ro (off := 1) rfl (ev_mk rfl) Try.underlying33 rfl F.sz3 rfl rfl) trivial ?_
                  refine rl0 (gy rfl rfl rfl rfl rfl rfl) rfl rfl (step_load_ro rfl (ev_mk rfl) F.one3 rfl) trivial ?_
                  refine' rl0 (gy rfl rfl rfl rfl rfl rfl) rfl rfl (step_index (r := [.ref (n + 10 + (at' (lsK (kgF (kL l) (ax.toNat % l.length) (hiF l l.length + 1)) l.length) (y : Int)).n) 0]) rfl (ev_mk rfl) (.inr (.inr ⟨_, rfl⟩)) (ev_mk rfl) Try.underlying28 F.sz34 (by omega) ?hr) trivial ?_
                  case hr => exact allR_at hwn_
                  refine rl0 (gy rfl rfl rfl rfl rfl rfl) rfl rfl (step_load_ro rfl (ev_mk rfl) F.one34 rfl) trivial ?_
                  have hxt_ : bz3 (n + 10 + (at' (lsK (kgF (kL l) (ax.toNat % l.length) (hiF l l.length + 1)) l.length) (y : Int)).n) = .cells [.sc (.int .i64 ((kgF (kL l) (ax.toNat % l.length) (hiF l l.length + 1)) ((at' (lsK (kgF (kL l) (ax.toNat % l.length) (hiF l l.length + 1)) l.length) (y : Int)).n))), .sc (.int .i64 (((at' (lsK (kgF (kL l) (ax.toNat % l.length) (hiF l l.length + 1)) l.length) (y : Int)).n : Nat) : Int)), .sc (.int .i64 (posF (popH (kgF (kL l) (ax.toNat % l.length) (hiF l l.length + 1)) g (l.length - y)) (l.length - y - 1) ((at' (lsK (kgF (kL l) (ax.toNat % l.length) (hiF l l.length + 1)) l.length) (y : Int)).n)))] := hfam3 _ hwn_
                  refine rl0 (gy rfl rfl rfl rfl rfl rfl) rfl rfl (step_callc rfl Try.func18 rfl rfl rfl (there_c (kgF (kL l) (ax.toNat % l.length) (hiF l l.length + 1)) (n + 10) (at' (lsK (kgF (kL l) (ax.toNat % l.length) (hiF l l.length + 1)) l.length) (y : Int)).n (posF (popH (kgF (kL l) (ax.toNat % l.length) (hiF l l.length + 1)) g (l.length - y)) (l.length - y - 1) (at' (lsK (kgF (kL l) (ax.toNat % l.length) (hiF l l.length + 1)) l.length) (y : Int)).n)) (by repeat (first | exact .nil | refine .cons ?_ ?_ | exact VLe.refl _ | exact vle_int (by omega) | exact vle_int hki_.symm | exact vle_int (kgF_c _ _ _) | exact vle_int (kgF_c _ _ _).symm | exact VLe.own_sl _ _ _ | exact VLe.fl_sl _ _ | exact VLe.nil_sl _ | exact VLe.nil_fl _ | refine VLe.agg ?_))) ⟨by repeat (first | exact uE | refine uN (by omega) ?_ | assumption | exact hd _ (by omega) | exact hd0 _ (by omega) | exact hd1 _ (by omega) | exact hd2 _ (by omega) | refine (hfz3 _ (by first | assumption | omega)).trans ?_ | fail), trivial⟩ ?_
                  refine rl_know (d := 170) (c := false) rfl ((by rw [show posF (popH (kgF (kL l) (ax.toNat % l.length) (hiF l l.length + 1)) g (l.length - y)) (l.length - y - 1) (at' (lsK (kgF (kL l) (ax.toNat % l.length) (hiF l l.length + 1)) l.length) (y : Int)).n = -1 from hgn_]; rfl)) ?_
                  refine rl0 (gn rfl) rfl rfl (step_pick rfl (ev_mk rfl) (ev_mk rfl)) trivial ?_
                  refine runsL_nil ?_
                  refine runs_cond false (ev_mk rfl) (fun h_ => nomatch h_) (fun _ => ?_)
                  refine runs_skip ?_
                  refine runs_region ?_
                  refine rl0 (gn rfl) rfl rfl (step_mv rfl rfl) trivial ?_
                  refine rl0 (gn rfl) rfl rfl (step_add rfl (ev_mk rfl) (ev_mk rfl) (w64 (by omega))) trivial ?_
                  refine rl0 (gn rfl) rfl rfl (step_as rfl rfl) trivial ?_
                  refine runsL_nil ?_
                  have hq0_ : ((y : Int) + 1) = ((y + 1) : Int) := by first | rfl | omega
                  have hq1_ : (l.length - y) - 1 = l.length - (y + 1) := by first | rfl | omega
                  refine ⟨_, _, ?_, sle ?_ (Nat.le_refl _), (y + 1), (popH (kgF (kL l) (ax.toNat % l.length) (hiF l l.length + 1)) g (l.length - y)), _, _, rfl, rfl, by omega, (fun k_ hk_ => by repeat (first | exact hf2 k_ hk_ | exact hf0 k_ hk_ | exact hf1 k_ hk_ | refine (hfz3 _ (by first | assumption | omega)).trans ?_ | refine uN (by first | assumption | omega) ?_ | fail)), by first | ((repeat (first | exact uE | assumption | refine uN (by omega) ?_ | refine (hfz3 _ (by first | assumption | omega)).trans ?_ | fail)); done) | exact tl_eq (by repeat (first | exact uE | assumption | refine uN (by omega) ?_ | refine (hfz3 _ (by first | assumption | omega)).trans ?_ | fail)) (by first | rfl | (simp [bytesV, beB_len]; done) | (simp [bytesV, beB_len]; omega) | omega) | (rw [← hq0_]; (repeat (first | exact uE | assumption | refine uN (by omega) ?_ | refine (hfz3 _ (by first | assumption | omega)).trans ?_ | fail)); done) | (rw [← hq1_]; (repeat (first | exact uE | assumption | refine uN (by omega) ?_ | refine (hfz3 _ (by first | assumption | omega)).trans ?_ | fail)); done) | (rw [← hq0_, ← hq1_]; (repeat (first | exact uE | assumption | refine uN (by omega) ?_ | refine (hfz3 _ (by first | assumption | omega)).trans ?_ | fail)); done), by first | ((repeat (first | exact uE | assumption | refine uN (by omega) ?_ | refine (hfz3 _ (by first | assumption | omega)).trans ?_ | fail)); done) | exact tl_eq (by repeat (first | exact uE | assumption | refine uN (by omega) ?_ | refine (hfz3 _ (by first | assumption | omega)).trans ?_ | fail)) (by first | rfl | (simp [bytesV, beB_len]; done) | (simp [bytesV, beB_len]; omega) | omega) | (rw [← hq0_]; (repeat (first | exact uE | assumption | refine uN (by omega) ?_ | refine (hfz3 _ (by first | assumption | omega)).trans ?_ | fail)); done) | (rw [← hq1_]; (repeat (first | exact uE | assumption | refine uN (by omega) ?_ | refine (hfz3 _ (by first | assumption | omega)).trans ?_ | fail)); done) | (rw [← hq0_, ← hq1_]; (repeat (first | exact uE | assumption | refine uN (by omega) ?_ | refine (hfz3 _ (by first | assumption | omega)).trans ?_ | fail)); done), by first | ((repeat (first | exact uE | assumption | refine uN (by omega) ?_ | refine (hfz3 _ (by first | assumption | omega)).trans ?_ | fail)); done) | exact tl_eq (by repeat (first | exact uE | assumption | refine uN (by omega) ?_ | refine (hfz3 _ (by first | assumption | omega)).trans ?_ | fail)) (by first | rfl | (simp [bytesV, beB_len]; done) | (simp [bytesV, beB_len]; omega) | omega) | (rw [← hq0_]; (repeat (first | exact uE | assumption | refine uN (by omega) ?_ | refine (hfz3 _ (by first | assumption | omega)).trans ?_ | fail)); done) | (rw [← hq1_]; (repeat (first | exact uE | assumption | refine uN (by omega) ?_ | refine (hfz3 _ (by first | assumption | omega)).trans ?_ | fail)); done) | (rw [← hq0_, ← hq1_]; (repeat (first | exact uE | assumption | refine uN (by omega) ?_ | refine (hfz3 _ (by first | assumption | omega)).trans ?_ | fail)); done), (by omega), hst_, (fun a_ ha_ => by repeat (first | exact hfam3 a_ ha_ | refine uN (by omega) ?_ | refine (hfz3 _ (by first | assumption | omega)).trans ?_ | fail))⟩
                  · omega
                  · (repeat' (first | exact trivial | refine ⟨⟨_, rfl, ?_⟩, ?_⟩ | fail)); all_goals (repeat' (first | exact VLe.refl _ | exact VLe.own_sl _ _ _ | exact VLe.fl_sl _ _ | exact VLe.nil_sl _ | exact VLe.nil_fl _ | exact VLes.refl _ | exact .nil | refine VLe.tup ?_ | refine VLe.agg ?_ | refine .cons ?_ ?_ | (rw [Int.natCast_add]; exact VLe.refl _) | exact vle_int (by omega) | exact vle_bool (by first | rfl | assumption | (simp_all; done) | fail) | (rw [← hq0_]; exact VLe.refl _) | (rw [hq0_]; exact VLe.refl _) | (rw [← hq1_]; exact VLe.refl _) | (rw [hq1_]; exact VLe.refl _) | fail))
                · skip
                  refine runsL_nil ?_
                  refine runs_cond false (ev_mk rfl) (fun h_ => nomatch h_) (fun _ => ?_)
                  refine runs_exit ?_
                  refine runs_seq ?_
                  refine runs_region ?_
                  refine rl0 (gn rfl) rfl rfl (step_mv rfl rfl) trivial ?_
                  refine rl0 (gn rfl) rfl rfl (step_callc rfl Try.func16 rfl rfl rfl (len_c (n + 0) (n + 1) l.length (l.length - y) l.length) (by repeat (first | exact .nil | refine .cons ?_ ?_ | exact VLe.refl _ | exact vle_int (by omega) | exact vle_int hki_.symm | exact vle_int (kgF_c _ _ _) | exact vle_int (kgF_c _ _ _).symm | exact VLe.own_sl _ _ _ | exact VLe.fl_sl _ _ | exact VLe.nil_sl _ | exact VLe.nil_fl _ | refine VLe.agg ?_))) ⟨by repeat (first | exact uE | refine uN (by omega) ?_ | assumption | exact hd _ (by omega) | exact hd0 _ (by omega) | exact hd1 _ (by omega) | exact hd2 _ (by omega) | fail), trivial⟩ ?_
                  refine rl_eql (gn rfl) rfl rfl rfl rfl rfl (fun h7 => ?_) (fun h7 => ?_)
                  rotate_left
                  · exact False.elim (by omega)
                  refine rl0 (gn rfl) rfl rfl (step_mv rfl rfl) trivial ?_
                  refine rl0 (gy rfl rfl rfl rfl rfl rfl) rfl rfl (step_callc rfl Try.func6 rfl rfl rfl (works_c) (by repeat (first | exact .nil | refine .cons ?_ ?_ | exact VLe.refl _ | exact vle_int (by omega) | exact vle_int hki_.symm | exact vle_int (kgF_c _ _ _) | exact vle_int (kgF_c _ _ _).symm | exact VLe.own_sl _ _ _ | exact VLe.fl_sl _ _ | exact VLe.nil_sl _ | exact VLe.nil_fl _ | refine VLe.agg ?_))) trivial ?_
                  refine rl0 (gn rfl) rfl rfl (step_pick rfl (ev_mk rfl) (ev_mk rfl)) trivial ?_
                  refine rl0 (gn rfl) rfl rfl (step_as rfl rfl) trivial ?_
                  refine runsL_nil ?_
                  refine runs_ret ?_
                  refine ⟨by first | exact .inr rfl | exact .inl rfl, fin_mkg (rest rfl res0) ?_ ?_ ?_ ?_ ?_⟩
                  · (repeat' (first | exact VLe.refl _ | exact VLe.own_sl _ _ _ | exact VLe.fl_sl _ _ | exact VLe.nil_sl _ | exact VLe.nil_fl _ | exact VLes.refl _ | exact .nil | refine VLe.tup ?_ | refine VLe.agg ?_ | refine .cons ?_ ?_ | (rw [Int.natCast_add]; exact VLe.refl _) | exact vle_int (by omega) | exact vle_bool (by first | rfl | assumption | (simp_all; done) | fail) | fail))
                  · first | ((repeat (first | exact trivial | exact allR_bd (by omega) | assumption | omega | refine ⟨?_, ?_⟩ | fail)); done) | (repeat (first | exact trivial | assumption | omega | (refine bdR_map (fun _ => ?_)) | (refine bdL_map (fun _ => ?_)) | refine ⟨?_, ?_⟩ | fail))
                  · intro k_ hk_; exact ble (by repeat (first | exact rfl | refine uN (by omega) ?_ | assumption | exact hf0 _ (by omega) | exact hf1 _ (by omega) | exact hf2 _ (by omega) | fail))
                  · intro p hp; cases hp
                  · first | ((repeat (first | exact trivial | exact allR_bd (by omega) | assumption | omega | refine ⟨?_, ?_⟩ | fail)); done) | (repeat (first | exact trivial | assumption | omega | (refine bdR_map (fun _ => ?_)) | (refine bdL_map (fun _ => ?_)) | refine ⟨?_, ?_⟩ | fail))
end Go.Proofs.Ytggeejghchnpaaa
