/- Walks of the leaf, by the logic of values. -/
import Derived.Test.YtdcmcmgbnkolbaaVb
import Derived.Test.YtdcmcmgbnkolbaaVmK
namespace Go.Proofs.Ytdcmcmgbnkolbaa
open Go.Vm
set_option linter.unusedVariables false
set_option linter.unusedSimpArgs false
def mk_ (r : List Int) : Int := beN (r.drop 56)
def pgO (l : List (List Int)) (j : Nat) : List Int := ((l.take j).map (·.take 56)).flatten ++ List.replicate (224 - 56 * j) 0
theorem take56_len {l : List (List Int)} (hl : ∀ r ∈ l, r.length = 64) : ∀ j, j ≤ l.length → (((l.take j).map (·.take 56)).flatten).length = 56 * j
  | 0, _ => by simp
  | j + 1, h => by
    rw [List.take_add_one, List.getElem?_eq_getElem (by omega), List.map_append, List.flatten_append, List.length_append, take56_len hl j (by omega)]
    have := hl _ (List.getElem_mem (show j < l.length by omega))
    simp [this]; omega
theorem pgO_len {l : List (List Int)} (hl : ∀ r ∈ l, r.length = 64) (j : Nat) (h : j ≤ l.length) (h4 : l.length = 4) : (pgO l j).length = 224 := by
  unfold pgO; rw [List.length_append, take56_len hl j h, List.length_replicate]; omega
theorem pgO_set {l : List (List Int)} (hl : ∀ r ∈ l, r.length = 64) (j : Nat) (h : j < l.length) (h4 : l.length = 4) : setSeg ((pgO l j).map bV) (56 * j) ((bytesV ((at' l (j : Int)).take 56)).flatten) = (pgO l (j + 1)).map bV := by
  have h1 := take56_len hl j (by omega)
  have hr := hl _ (List.getElem_mem h)
  have e : (bytesV ((at' l (j : Int)).take 56)).flatten = ((at' l (j : Int)).take 56).map bV := by
    unfold bytesV; induction ((at' l (j : Int)).take 56) with
    | nil => rfl
    | cons x xs ih => rw [List.map_cons, List.flatten_cons, ih]; rfl
  rw [e]
  unfold setSeg pgO
  have h2 : ((at' l (j : Int)).take 56).length = 56 := by rw [at_nat _ _ h]; simp [hr]
  rw [List.length_map, h2, List.map_append, List.take_append_of_le_length (by rw [List.length_map]; omega), List.take_of_length_le (by rw [List.length_map]; omega), List.drop_append, List.drop_of_length_le (by rw [List.length_map]; omega), List.nil_append, List.length_map, h1]
  rw [show l.take (j + 1) = l.take j ++ [l[j]] by rw [List.take_add_one, List.getElem?_eq_getElem h]; rfl, List.map_append (f := fun x => List.take 56 x), List.flatten_append, at_nat _ _ h, List.map_append, List.map_append, List.map_replicate, List.map_replicate, List.drop_replicate, show 224 - 56 * j - (56 * j + 56 - 56 * j) = 224 - 56 * (j + 1) by omega]
  simp
theorem drop56 {r : List Int} (h : r.length = 64) : (r.drop 56).length = 8 := by simp [h]
theorem bytes_drop {r : List Int} (h : bytes r) (n : Nat) : bytes (r.drop n) := fun x hx => h x (List.mem_of_mem_drop hx)
theorem at_memS {l : List (List Int)} {j : Nat} (h : j < l.length) : at' l (j : Int) ∈ l := by rw [at_nat _ _ h]; exact List.getElem_mem _
theorem at_drop {r : List Int} (h : r.length = 64) {j : Nat} (hj : j < 8) : (r.map bV)[56 + j]? = some (bV (at' (r.drop 56) (j : Int))) := by
  rw [at_nat _ _ (by rw [drop56 h]; exact hj), List.getElem?_map, List.getElem?_eq_getElem (by omega)]; simp
theorem row56 {r : List Int} (h : r.length = 64) : (((r.map bV).take 64).drop 56).map (fun v => [v]) = bytesV (r.drop 56) := by
  rw [List.take_of_length_le (by rw [List.length_map]; omega), ← List.map_drop, List.map_map]; rfl
theorem rows_take {r : List Int} (h : r.length = 64) : rowsOf 1 56 (((r.map bV).drop 0).take (56 * 1)) = bytesV (r.take 56) := by
  have key : ∀ (n : Nat) (xs : List Int), xs.length = n → rowsOf 1 n (xs.map bV) = bytesV xs := by
    intro n
    induction n with
    | zero => intro xs hx; rw [List.length_eq_zero_iff.1 hx]; rfl
    | succ n ih =>
      intro xs hx
      cases xs with
      | nil => simp at hx
      | cons x xs => simp only [rowsOf, List.map_cons, List.take_succ_cons, List.take_zero, List.drop_succ_cons, List.drop_zero]; rw [ih xs (by simpa using hx)]; rfl
  rw [List.drop_zero, ← List.map_take]
  exact key 56 (r.take 56) (by simp [h])
set_option maxRecDepth 100000 in
set_option maxHeartbeats 4000000 in
theorem get_m (k q c : Nat) (cs : List V) (b : List Int) (hb : bytes b) (hl : b.length = 8) (hc : 8 ≤ c) (hq : ∀ j : Nat, j < 8 → cs[q + j]? = some (bV (at' b (j : Int)))) : Does Try.prog 22 [.msl k q 8 c 1] [(k, .cells cs)] [] (.sc (.int .u64 (beN b))) := by
  refine does_mk 20 Try.func22 rfl rfl rfl (fun n B bx hd hpre hup hvs hbx => ?_)
  have hp0 := hpre.1
  have hk0 := lt_cells hd hp0
  refine runs_seq ?_
  refine runs_region ?_
  refine rl0 (gn rfl) rfl rfl (step_as rfl rfl) trivial ?_
  refine runsL_nil ?_
  refine runs_seq ?_
  refine runs_region ?_
  refine rl0 (gn rfl) rfl rfl (step_as rfl rfl) trivial ?_
  refine runsL_nil ?_
  refine runs_seq ?_
  refine runs_seq ?_
  refine runs_region ?_
  refine rl0 (gn rfl) rfl rfl (step_mv rfl rfl) trivial ?_
  refine rl0 (gn rfl) rfl rfl (step_mv rfl rfl) trivial ?_
  first
    | refine rl0 (gn rfl) rfl rfl (step_len rfl rfl (ev_mk rfl) (.inl ⟨⟨_, Try.underlying48⟩, .inl ⟨_, _, .inl rfl, List.length_map _⟩⟩)) trivial ?_
    | refine rl0 (gn rfl) rfl rfl (step_len rfl rfl (ev_mk rfl) (.inl ⟨⟨_, Try.underlying48⟩, .inl ⟨_, _, .inl rfl, rfl⟩⟩)) trivial ?_
    | refine rl0 (gn rfl) rfl rfl (step_len rfl rfl (ev_mk rfl) (.inl ⟨⟨_, Try.underlying48⟩, .inl ⟨_, _, .inr (.inl rfl), List.length_map _⟩⟩)) trivial ?_
    | refine rl0 (gn rfl) rfl rfl (step_len rfl rfl (ev_mk rfl) (.inl ⟨⟨_, Try.underlying48⟩, .inl ⟨_, _, .inr (.inl rfl), rfl⟩⟩)) trivial ?_
    | refine rl0 (gn rfl) rfl rfl (step_len rfl rfl (ev_mk rfl) (.inl ⟨⟨_, Try.underlying48⟩, .inl ⟨_, _, .inr (.inr ⟨_, rfl⟩), List.length_map _⟩⟩)) trivial ?_
    | refine rl0 (gn rfl) rfl rfl (step_len rfl rfl (ev_mk rfl) (.inl ⟨⟨_, Try.underlying48⟩, .inl ⟨_, _, .inr (.inr ⟨_, rfl⟩), rfl⟩⟩)) trivial ?_
    | refine rl0 (gn rfl) rfl rfl (step_len rfl rfl (ev_mk rfl) (.inl ⟨⟨_, Try.underlying48⟩, .inr (.inl ⟨_, _, _, _, rfl⟩)⟩)) trivial ?_
    | refine rl0 (gn rfl) rfl rfl (step_len (m := 0) rfl rfl (ev_mk rfl) (.inl ⟨⟨_, Try.underlying48⟩, .inr (.inr ⟨_, _, rfl⟩)⟩)) trivial ?_
  refine rl0 (gn rfl) rfl rfl (step_sub rfl (ev_mk rfl) (ev_mk rfl) (w64 (by omega))) trivial ?_
  refine rl0 (gn rfl) rfl rfl (step_max rfl (ev_mk rfl) (ev_mk rfl)) trivial ?_
  refine rl0 (gn rfl) rfl rfl (step_sl_msl (a := 0) (h := 8) (m := c) (q' := q) (n' := 8) (c' := c) rfl (ev_mk rfl) Try.underlying48 F.sz5 (bndLo_nat (a := 0) rfl (by simp)) bndHi_none bndHi_none (fun h_ => nomatch h_) (by omega) (by omega) (by omega) (.inl ⟨by omega, by omega⟩) rfl rfl) trivial ?_
  first
    | refine rl0 (gn rfl) rfl rfl (step_len rfl rfl (ev_mk rfl) (.inl ⟨⟨_, Try.underlying48⟩, .inl ⟨_, _, .inl rfl, List.length_map _⟩⟩)) trivial ?_
    | refine rl0 (gn rfl) rfl rfl (step_len rfl rfl (ev_mk rfl) (.inl ⟨⟨_, Try.underlying48⟩, .inl ⟨_, _, .inl rfl, rfl⟩⟩)) trivial ?_
    | refine rl0 (gn rfl) rfl rfl (step_len rfl rfl (ev_mk rfl) (.inl ⟨⟨_, Try.underlying48⟩, .inl ⟨_, _, .inr (.inl rfl), List.length_map _⟩⟩)) trivial ?_
    | refine rl0 (gn rfl) rfl rfl (step_len rfl rfl (ev_mk rfl) (.inl ⟨⟨_, Try.underlying48⟩, .inl ⟨_, _, .inr (.inl rfl), rfl⟩⟩)) trivial ?_
    | refine rl0 (gn rfl) rfl rfl (step_len rfl rfl (ev_mk rfl) (.inl ⟨⟨_, Try.underlying48⟩, .inl ⟨_, _, .inr (.inr ⟨_, rfl⟩), List.length_map _⟩⟩)) trivial ?_
    | refine rl0 (gn rfl) rfl rfl (step_len rfl rfl (ev_mk rfl) (.inl ⟨⟨_, Try.underlying48⟩, .inl ⟨_, _, .inr (.inr ⟨_, rfl⟩), rfl⟩⟩)) trivial ?_
    | refine rl0 (gn rfl) rfl rfl (step_len rfl rfl (ev_mk rfl) (.inl ⟨⟨_, Try.underlying48⟩, .inr (.inl ⟨_, _, _, _, rfl⟩)⟩)) trivial ?_
    | refine rl0 (gn rfl) rfl rfl (step_len (m := 0) rfl rfl (ev_mk rfl) (.inl ⟨⟨_, Try.underlying48⟩, .inr (.inr ⟨_, _, rfl⟩)⟩)) trivial ?_
  refine rl0 (gn rfl) rfl rfl (step_mv rfl rfl) trivial ?_
  refine runsL_nil ?_
  refine runs_block ?_
  refine runs_loop (fun (i : Nat) (s : Go.Vm.S) => ∃ (j : Nat) (m0 : Nat) (b0 : Nat → Box), (s = ⟨mk [(3, .sc (.int .u64 (beN (b.take j)))), (11, .msl k q 8 c 1), (12, .sc (.int .i64 8)), (13, .sc (.int .i64 j))], m0, b0⟩) ∧ (i = 8 - j) ∧ (n ≤ m0) ∧ (∀ k, k < n → b0 k = bx k) ∧ (b0 k = .cells cs) ∧ (j ≤ 8)) (8) ⟨_, sle ?_ (Nat.le_refl _), 0, _, _, rfl, rfl, ?_⟩ ?_
  · (repeat' (first | exact trivial | refine ⟨⟨_, rfl, ?_⟩, ?_⟩ | fail)); (all_goals first | exact VLe.refl _ | (rw [Int.natCast_add]; exact VLe.refl _) | exact VLe.own_sl _ _ _ | exact VLe.fl_sl _ _ | exact VLe.nil_sl _)
  · exact ⟨by omega, (fun k hk => by first | exact rfl | (refine (upd_ne _ _ _ _ (by omega)).trans ?_; first | exact rfl | skip; repeat (first | exact rfl | refine (upd_ne _ _ _ _ (by omega)).trans ?_ | assumption | exact hf0 _ (by omega) | exact hf1 _ (by omega) | exact hf2 _ (by omega) | exact hf0 _ (by omega) (by first | assumption | omega) | exact hf1 _ (by omega) (by first | assumption | omega))) | exact hf0 _ (by omega) | exact hf1 _ (by omega) | exact hf2 _ (by omega) | exact hf0 _ (by omega) (by first | assumption | omega) | exact hf1 _ (by omega) (by first | assumption | omega)), by repeat (first | exact upd_eq _ _ _ | assumption | refine (upd_ne _ _ _ _ (by omega)).trans ?_ | fail), by omega⟩
  · rintro _ _ ⟨j, m0, b0, rfl, rfl, hm0, hf0, hB0_0, hF0_0⟩
    refine runs_know (fun hd0 => ?_)
    refine runs_bump 8 ?_
    simp only at hd0
    refine runs_seq ?_
    refine runs_region ?_
    refine rl_lss (gn rfl) rfl rfl rfl rfl rfl (fun h1 => ?_) (fun h1 => ?_)
    · skip
      refine runsL_nil ?_
      refine runs_seq ?_
      refine runs_cond true (ev_mk rfl) (fun _ => ?_) (fun h_ => nomatch h_)
      refine runs_skip ?_
      refine runs_seq ?_
      refine runs_block ?_
      refine runs_seq ?_
      refine runs_region ?_
      first
        | (refine' rl0 (gn rfl) rfl rfl (step_index rfl (ev_mk rfl) (.inl rfl) (ev_mk rfl) Try.underlying48 F.sz5 (by omega) ?hr) trivial ?_; (case hr => exact map_at _ _ _ (by omega) (by omega)))
        | (refine' rl0 (gn rfl) rfl rfl (step_index rfl (ev_mk rfl) (.inr (.inl rfl)) (ev_mk rfl) Try.underlying48 F.sz5 (by omega) ?hr) trivial ?_; (case hr => exact map_at _ _ _ (by omega) (by omega)))
        | (refine' rl0 (gn rfl) rfl rfl (step_index rfl (ev_mk rfl) (.inr (.inr ⟨_, rfl⟩)) (ev_mk rfl) Try.underlying48 F.sz5 (by omega) ?hr) trivial ?_; (case hr => exact map_at _ _ _ (by omega) (by omega)))
        | (refine rl0 (gn rfl) rfl rfl (step_index_msl rfl (ev_mk rfl) (ev_mk rfl) Try.underlying48 F.sz5 (by omega) (by omega)) trivial ?_)
      first
        | (refine' rl0 (gn rfl) rfl rfl (step_load_one rfl (ev_mk rfl) F.one5 ?hv) ⟨?hb, trivial⟩ ?_; (case hb => repeat (first | exact upd_eq _ _ _ | refine (upd_ne _ _ _ _ (by omega)).trans ?_ | assumption | exact hd _ (by omega) | exact hd0 _ (by omega) | exact hd1 _ (by omega) | exact hd2 _ (by omega) | fail)); (case hv => (rw [show q + (j : Int).toNat * 1 = q + j by omega]; exact hq j (by omega))))
        | (refine rl0 (gn rfl) rfl rfl (step_load_ro rfl (ev_mk rfl) F.one5 rfl) trivial ?_)
      refine rl0 (gn rfl) rfl rfl (step_as rfl rfl) trivial ?_
      refine runsL_nil ?_
      refine runs_region ?_
      refine rl0 (gn rfl) rfl rfl (step_mv rfl rfl) trivial ?_
      refine rl0 (gn rfl) rfl rfl (step_shl (r := beN (b.take j) * 256) rfl (ev_mk rfl) (ev_mk rfl) (by omega) (by show IntKind.u64.wrap (_ * 2 ^ 8) = _; rw [show (2 : Int) ^ 8 = 256 from rfl]; have h_ := beN_8 hb hl (j := j) (by omega); exact wu64 (by omega))) trivial ?_
      refine rl0 (gn rfl) rfl rfl (step_mv rfl rfl) trivial ?_
      refine rl0 (gn rfl) rfl rfl (step_conv_id rfl rfl Try.underlying5 Try.underlying23 (wu64 (by have h2_ := at_byte hb (i := (j : Int)) (by omega) (by omega); omega))) trivial ?_
      refine rl0 (gn rfl) rfl rfl (step_bits (r := beN (b.take (j + 1))) rfl (ev_mk rfl) (ev_mk rfl) (.inr (.inl rfl)) (by rw [beN_take (by omega)]; have h_ := beN_8 hb hl (j := j) (by omega); have h2_ := at_byte hb (i := (j : Int)) (by omega) (by omega); exact or_join8 h_.1 (by omega) h2_.1 h2_.2)) trivial ?_
      refine rl0 (gn rfl) rfl rfl (step_as rfl rfl) trivial ?_
      refine runsL_nil ?_
      refine runs_region ?_
      refine rl0 (gn rfl) rfl rfl (step_add rfl (ev_mk rfl) (ev_mk rfl) (w64 (by omega))) trivial ?_
      refine rl0 (gn rfl) rfl rfl (step_mv rfl rfl) trivial ?_
      refine runsL_nil ?_
      refine ⟨_, _, ?_, sle ?_ (Nat.le_refl _), j + 1, _, _, rfl, rfl, by omega, (fun k hk => by repeat (first | exact hf0 k hk | exact hf0 k hk | exact hf1 k hk | exact hf2 k hk | refine (upd_ne _ _ _ _ (by first | assumption | omega)).trans ?_ | fail)), by repeat (first | exact upd_eq _ _ _ | assumption | refine (upd_ne _ _ _ _ (by omega)).trans ?_ | fail), by omega⟩
      · omega
      · (repeat' (first | exact trivial | refine ⟨⟨_, rfl, ?_⟩, ?_⟩ | fail)); (all_goals first | exact VLe.refl _ | (rw [Int.natCast_add]; exact VLe.refl _) | exact VLe.own_sl _ _ _ | exact VLe.fl_sl _ _ | exact VLe.nil_sl _)
    · skip
      refine runsL_nil ?_
      refine runs_seq ?_
      refine runs_cond false (ev_mk rfl) (fun h_ => nomatch h_) (fun _ => ?_)
      refine runs_exit ?_
      refine runs_seq ?_
      refine runs_region ?_
      refine rl0 (gn rfl) rfl rfl (step_mv rfl rfl) trivial ?_
      refine rl0 (gn rfl) rfl rfl (step_as rfl rfl) trivial ?_
      refine runsL_nil ?_
      refine runs_ret ?_
      refine ⟨by first | exact .inr rfl | exact .inl rfl, fin_mk (rest rfl res0) ?_ ?_ ?_ ?_⟩
      · (obtain rfl : j = 8 := by omega); rw [List.take_of_length_le (by omega)]; exact VLe.refl _
      · repeat (first | exact trivial | assumption | omega | exact bd_bs | exact bd_row | exact bd_secs | exact bd_bools | refine ⟨?_, ?_⟩ | fail)
      · intro k hk; exact ble (by first | exact rfl | (refine (upd_ne _ _ _ _ (by omega)).trans ?_; first | exact rfl | skip; repeat (first | exact rfl | refine (upd_ne _ _ _ _ (by omega)).trans ?_ | assumption | exact hf0 _ (by omega) | exact hf1 _ (by omega) | exact hf2 _ (by omega) | exact hf0 _ (by omega) (by first | assumption | omega) | exact hf1 _ (by omega) (by first | assumption | omega))) | exact hf0 _ (by omega) | exact hf1 _ (by omega) | exact hf2 _ (by omega) | exact hf0 _ (by omega) (by first | assumption | omega) | exact hf1 _ (by omega) (by first | assumption | omega))
      · intro p hp; cases hp
set_option maxRecDepth 100000 in
set_option maxHeartbeats 4000000 in
theorem lget_len (l : List (List Int)) (hl : ∀ r ∈ l, r.length = 64) (hb : ∀ r ∈ l, bytes r) (hL : (l.length : Int) ≤ 9223372036854775807) (h4 : ¬ l.length = 4) : Does Try.prog 8 [.sl 64 (secsV l)] [] [] (.tup [.agg (List.replicate 224 (bV 0)), .sc (.int .u64 0), .sc (.bool false)]) := by
  refine does_mk 20 Try.func8 rfl rfl rfl (fun n B bx hd hpre hup hvs hbx => ?_)
  refine runs_seq ?_
  refine runs_region ?_
  refine rl1 (gn rfl) rfl rfl (step_allocc (k := n + 0) (zs := (List.replicate 224 (.int .u8 0))) (cs := List.replicate 224 (.sc (.int .u8 0))) rfl F.zero22 (by first | rfl | simp) (by first | rfl | decide | simp) (by first | rfl | simp)) ⟨by repeat (first | exact upd_eq _ _ _ | refine (upd_ne _ _ _ _ (by omega)).trans ?_ | assumption | exact hd _ (by omega) | exact hd0 _ (by omega) | exact hd1 _ (by omega) | exact hd2 _ (by omega) | fail), trivial⟩ (by omega) ?_
  refine rl0 (gn rfl) rfl rfl (step_as rfl rfl) trivial ?_
  refine rl0 (gn rfl) rfl rfl (step_as rfl rfl) trivial ?_
  refine runsL_nil ?_
  refine runs_seq ?_
  refine runs_region ?_
  refine rl1 (gn rfl) rfl rfl (step_allocc (k := n + 1) (zs := (List.replicate 224 (.int .u8 0))) (cs := List.replicate 224 (.sc (.int .u8 0))) rfl F.zero22 (by first | rfl | simp) (by first | rfl | decide | simp) (by first | rfl | simp)) ⟨by repeat (first | exact upd_eq _ _ _ | refine (upd_ne _ _ _ _ (by omega)).trans ?_ | assumption | exact hd _ (by omega) | exact hd0 _ (by omega) | exact hd1 _ (by omega) | exact hd2 _ (by omega) | fail), trivial⟩ (by omega) ?_
  refine runsL_nil ?_
  refine runs_seq ?_
  refine runs_seq ?_
  refine runs_region ?_
  refine rl0 (gn rfl) rfl rfl (step_mv rfl rfl) trivial ?_
  first
    | refine rl0 (gn rfl) rfl rfl (step_len rfl rfl (ev_mk rfl) (.inl ⟨⟨_, Try.underlying24⟩, .inl ⟨_, _, .inl rfl, List.length_map _⟩⟩)) trivial ?_
    | refine rl0 (gn rfl) rfl rfl (step_len rfl rfl (ev_mk rfl) (.inl ⟨⟨_, Try.underlying24⟩, .inl ⟨_, _, .inl rfl, rfl⟩⟩)) trivial ?_
    | refine rl0 (gn rfl) rfl rfl (step_len rfl rfl (ev_mk rfl) (.inl ⟨⟨_, Try.underlying24⟩, .inl ⟨_, _, .inr (.inl rfl), List.length_map _⟩⟩)) trivial ?_
    | refine rl0 (gn rfl) rfl rfl (step_len rfl rfl (ev_mk rfl) (.inl ⟨⟨_, Try.underlying24⟩, .inl ⟨_, _, .inr (.inl rfl), rfl⟩⟩)) trivial ?_
    | refine rl0 (gn rfl) rfl rfl (step_len rfl rfl (ev_mk rfl) (.inl ⟨⟨_, Try.underlying24⟩, .inl ⟨_, _, .inr (.inr ⟨_, rfl⟩), List.length_map _⟩⟩)) trivial ?_
    | refine rl0 (gn rfl) rfl rfl (step_len rfl rfl (ev_mk rfl) (.inl ⟨⟨_, Try.underlying24⟩, .inl ⟨_, _, .inr (.inr ⟨_, rfl⟩), rfl⟩⟩)) trivial ?_
    | refine rl0 (gn rfl) rfl rfl (step_len rfl rfl (ev_mk rfl) (.inl ⟨⟨_, Try.underlying24⟩, .inr (.inl ⟨_, _, _, _, rfl⟩)⟩)) trivial ?_
    | refine rl0 (gn rfl) rfl rfl (step_len (m := 0) rfl rfl (ev_mk rfl) (.inl ⟨⟨_, Try.underlying24⟩, .inr (.inr ⟨_, _, rfl⟩)⟩)) trivial ?_
  refine rl_neq (gn rfl) rfl rfl rfl rfl rfl (fun h1 => ?_) (fun h1 => ?_)
  · skip
    refine runsL_nil ?_
    refine runs_cond true (ev_mk rfl) (fun _ => ?_) (fun h_ => nomatch h_)
    refine runs_seq ?_
    refine runs_region ?_
    first
      | (refine' rl0 (gn rfl) rfl rfl (step_load_all rfl rfl F.agg22 ?hl) ⟨?hb, trivial⟩ ?_; (case hb => repeat (first | exact upd_eq _ _ _ | refine (upd_ne _ _ _ _ (by omega)).trans ?_ | assumption | exact hd _ (by omega) | exact hd0 _ (by omega) | exact hd1 _ (by omega) | exact hd2 _ (by omega) | fail)); (case hl => first | rfl | (simp; done) | (first | (simp; done) | (rw [List.length_map]; exact hl _ (at_memS (j := j) (by omega))) | (rw [List.length_map]; exact hl _ (at_memS (j := 0) (by omega))) | (rw [List.length_map, pgO_len hl j (by omega) (by omega)]))))
      | (refine rl0 (gn rfl) rfl rfl (step_load_ro_all rfl rfl F.agg22 (by first | rfl | (simp; done) | (first | (simp; done) | (rw [List.length_map]; exact hl _ (at_memS (j := j) (by omega))) | (rw [List.length_map]; exact hl _ (at_memS (j := 0) (by omega))) | (rw [List.length_map, pgO_len hl j (by omega) (by omega)])))) trivial ?_)
      | (refine' rl0 (gn rfl) rfl rfl (step_load_agg rfl (ev_mk rfl) F.agg22 ?hc ?hl) ⟨?hb, trivial⟩ ?_; (case hb => repeat (first | exact upd_eq _ _ _ | refine (upd_ne _ _ _ _ (by omega)).trans ?_ | assumption | exact hd _ (by omega) | exact hd0 _ (by omega) | exact hd1 _ (by omega) | exact hd2 _ (by omega) | fail)); (case hc => rfl); (case hl => first | rfl | (simp; done)))
      | (refine rl0 (gn rfl) rfl rfl (step_load_ro_agg rfl (ev_mk rfl) F.agg22 rfl rfl) trivial ?_)
    first
      | (refine' rls (gn rfl) rfl (step_storeA rfl rfl rfl rfl F.agg22 ?hm ?hl) ⟨?hb, trivial⟩ ?hk ?_; (case hb => repeat (first | exact upd_eq _ _ _ | refine (upd_ne _ _ _ _ (by omega)).trans ?_ | assumption | exact hd _ (by omega) | exact hd0 _ (by omega) | exact hd1 _ (by omega) | exact hd2 _ (by omega) | fail)); (case hm => first | rfl | (simp; done) | (first | (simp; done) | (rw [List.length_map]; exact hl _ (at_memS (j := j) (by omega))) | (rw [List.length_map]; exact hl _ (at_memS (j := 0) (by omega))) | (rw [List.length_map, pgO_len hl j (by omega) (by omega)]))); (case hl => first | rfl | (simp; done) | (first | (simp; done) | (rw [List.length_map]; exact hl _ (at_memS (j := j) (by omega))) | (rw [List.length_map]; exact hl _ (at_memS (j := 0) (by omega))) | (rw [List.length_map, pgO_len hl j (by omega) (by omega)]))); (case hk => omega))
      | (refine' rls (gn rfl) rfl (step_storeS rfl rfl rfl rfl F.agg22 ?hm ?hl ?hc) ⟨?hb, trivial⟩ ?hk ?_; (case hb => repeat (first | exact upd_eq _ _ _ | refine (upd_ne _ _ _ _ (by omega)).trans ?_ | assumption | exact hd _ (by omega) | exact hd0 _ (by omega) | exact hd1 _ (by omega) | exact hd2 _ (by omega) | fail)); (case hm => first | rfl | (simp; done) | (first | (simp; done) | (rw [List.length_map]; exact hl _ (at_memS (j := j) (by omega))) | (rw [List.length_map]; exact hl _ (at_memS (j := 0) (by omega))) | (rw [List.length_map, pgO_len hl j (by omega) (by omega)]))); (case hl => first | decide | (simp; done) | (first | (simp; done) | (rw [List.length_map]; exact hl _ (at_memS (j := j) (by omega))) | (rw [List.length_map]; exact hl _ (at_memS (j := 0) (by omega))) | (rw [List.length_map, pgO_len hl j (by omega) (by omega)]))); (case hc => rfl); (case hk => omega))
    refine rl0 (gn rfl) rfl rfl (step_as rfl rfl) trivial ?_
    refine rl0 (gn rfl) rfl rfl (step_as rfl rfl) trivial ?_
    refine runsL_nil ?_
    refine runs_ret ?_
    refine ⟨by first | exact .inr rfl | exact .inl rfl, fin_mk (resc rfl (by repeat (first | exact upd_eq _ _ _ | refine (upd_ne _ _ _ _ (by omega)).trans ?_ | assumption | exact hd _ (by omega) | exact hd0 _ (by omega) | exact hd1 _ (by omega) | exact hd2 _ (by omega) | fail)) F.agg22 (by first | rfl | (first | (simp; done) | (rw [List.length_map]; exact hl _ (at_memS (j := j) (by omega))) | (rw [List.length_map]; exact hl _ (at_memS (j := 0) (by omega))) | (rw [List.length_map, pgO_len hl j (by omega) (by omega)]))) (rest rfl (rest rfl res0))) ?_ ?_ ?_ ?_⟩
    · first | exact VLe.refl _ | exact VLe.own_sl _ _ _ | exact VLe.fl_sl _ _
    · repeat (first | exact trivial | assumption | omega | exact bd_bs | exact bd_row | exact bd_secs | exact bd_bools | refine ⟨?_, ?_⟩ | fail)
    · intro k hk; exact ble (by first | exact rfl | (refine (upd_ne _ _ _ _ (by omega)).trans ?_; first | exact rfl | skip; repeat (first | exact rfl | refine (upd_ne _ _ _ _ (by omega)).trans ?_ | assumption | exact hf0 _ (by omega) | exact hf1 _ (by omega) | exact hf2 _ (by omega) | exact hf0 _ (by omega) (by first | assumption | omega) | exact hf1 _ (by omega) (by first | assumption | omega))) | exact hf0 _ (by omega) | exact hf1 _ (by omega) | exact hf2 _ (by omega) | exact hf0 _ (by omega) (by first | assumption | omega) | exact hf1 _ (by omega) (by first | assumption | omega))
    · intro p hp; cases hp
  · skip
    exact absurd h4 (by omega)
set_option maxRecDepth 100000 in
set_option maxHeartbeats 4000000 in
theorem lget_torn (l : List (List Int)) (hl : ∀ r ∈ l, r.length = 64) (hb : ∀ r ∈ l, bytes r) (hL : (l.length : Int) ≤ 9223372036854775807) (h4 : l.length = 4) (ht : ∃ r ∈ l, beN (r.drop 56) ≠ beN ((at' l 0).drop 56)) : Does Try.prog 8 [.sl 64 (secsV l)] [] [] (.tup [.agg (List.replicate 224 (bV 0)), .sc (.int .u64 0), .sc (.bool false)]) := by
  refine does_mk 20 Try.func8 rfl rfl rfl (fun n B bx hd hpre hup hvs hbx => ?_)
  refine runs_seq ?_
  refine runs_region ?_
  refine rl1 (gn rfl) rfl rfl (step_allocc (k := n + 0) (zs := (List.replicate 224 (.int .u8 0))) (cs := List.replicate 224 (.sc (.int .u8 0))) rfl F.zero22 (by first | rfl | simp) (by first | rfl | decide | simp) (by first | rfl | simp)) ⟨by repeat (first | exact upd_eq _ _ _ | refine (upd_ne _ _ _ _ (by omega)).trans ?_ | assumption | exact hd _ (by omega) | exact hd0 _ (by omega) | exact hd1 _ (by omega) | exact hd2 _ (by omega) | fail), trivial⟩ (by omega) ?_
  refine rl0 (gn rfl) rfl rfl (step_as rfl rfl) trivial ?_
  refine rl0 (gn rfl) rfl rfl (step_as rfl rfl) trivial ?_
  refine runsL_nil ?_
  refine runs_seq ?_
  refine runs_region ?_
  refine rl1 (gn rfl) rfl rfl (step_allocc (k := n + 1) (zs := (List.replicate 224 (.int .u8 0))) (cs := List.replicate 224 (.sc (.int .u8 0))) rfl F.zero22 (by first | rfl | simp) (by first | rfl | decide | simp) (by first | rfl | simp)) ⟨by repeat (first | exact upd_eq _ _ _ | refine (upd_ne _ _ _ _ (by omega)).trans ?_ | assumption | exact hd _ (by omega) | exact hd0 _ (by omega) | exact hd1 _ (by omega) | exact hd2 _ (by omega) | fail), trivial⟩ (by omega) ?_
  refine runsL_nil ?_
  refine runs_seq ?_
  refine runs_seq ?_
  refine runs_region ?_
  refine rl0 (gn rfl) rfl rfl (step_mv rfl rfl) trivial ?_
  first
    | refine rl0 (gn rfl) rfl rfl (step_len rfl rfl (ev_mk rfl) (.inl ⟨⟨_, Try.underlying24⟩, .inl ⟨_, _, .inl rfl, List.length_map _⟩⟩)) trivial ?_
    | refine rl0 (gn rfl) rfl rfl (step_len rfl rfl (ev_mk rfl) (.inl ⟨⟨_, Try.underlying24⟩, .inl ⟨_, _, .inl rfl, rfl⟩⟩)) trivial ?_
    | refine rl0 (gn rfl) rfl rfl (step_len rfl rfl (ev_mk rfl) (.inl ⟨⟨_, Try.underlying24⟩, .inl ⟨_, _, .inr (.inl rfl), List.length_map _⟩⟩)) trivial ?_
    | refine rl0 (gn rfl) rfl rfl (step_len rfl rfl (ev_mk rfl) (.inl ⟨⟨_, Try.underlying24⟩, .inl ⟨_, _, .inr (.inl rfl), rfl⟩⟩)) trivial ?_
    | refine rl0 (gn rfl) rfl rfl (step_len rfl rfl (ev_mk rfl) (.inl ⟨⟨_, Try.underlying24⟩, .inl ⟨_, _, .inr (.inr ⟨_, rfl⟩), List.length_map _⟩⟩)) trivial ?_
    | refine rl0 (gn rfl) rfl rfl (step_len rfl rfl (ev_mk rfl) (.inl ⟨⟨_, Try.underlying24⟩, .inl ⟨_, _, .inr (.inr ⟨_, rfl⟩), rfl⟩⟩)) trivial ?_
    | refine rl0 (gn rfl) rfl rfl (step_len rfl rfl (ev_mk rfl) (.inl ⟨⟨_, Try.underlying24⟩, .inr (.inl ⟨_, _, _, _, rfl⟩)⟩)) trivial ?_
    | refine rl0 (gn rfl) rfl rfl (step_len (m := 0) rfl rfl (ev_mk rfl) (.inl ⟨⟨_, Try.underlying24⟩, .inr (.inr ⟨_, _, rfl⟩)⟩)) trivial ?_
  refine rl_neq (gn rfl) rfl rfl rfl rfl rfl (fun h1 => ?_) (fun h1 => ?_)
  · exact absurd h1 (by omega)
  refine runsL_nil ?_
  refine runs_cond false (ev_mk rfl) (fun h_ => nomatch h_) (fun _ => ?_)
  refine runs_skip ?_
  refine runs_seq ?_
  refine runs_region ?_
  refine rl0 (gn rfl) rfl rfl (step_mv rfl rfl) trivial ?_
  first
    | (refine' rl0 (gn rfl) rfl rfl (step_index rfl (ev_mk rfl) (.inl rfl) (ev_mk rfl) Try.underlying24 F.sz45 (by omega) ?hr) trivial ?_; (case hr => exact map_at _ _ _ (by omega) (by omega)))
    | (refine' rl0 (gn rfl) rfl rfl (step_index rfl (ev_mk rfl) (.inr (.inl rfl)) (ev_mk rfl) Try.underlying24 F.sz45 (by omega) ?hr) trivial ?_; (case hr => exact map_at _ _ _ (by omega) (by omega)))
    | (refine' rl0 (gn rfl) rfl rfl (step_index rfl (ev_mk rfl) (.inr (.inr ⟨_, rfl⟩)) (ev_mk rfl) Try.underlying24 F.sz45 (by omega) ?hr) trivial ?_; (case hr => exact map_at _ _ _ (by omega) (by omega)))
    | (refine rl0 (gn rfl) rfl rfl (step_index_msl rfl (ev_mk rfl) (ev_mk rfl) Try.underlying24 F.sz45 (by omega) (by omega)) trivial ?_)
  first
    | (refine rl0 (gn rfl) rfl rfl (step_sl_arr (a := 56) (h := 64) (m := 64) (q' := 56) (n' := 8) (c' := 8) rfl (ev_mk rfl) Try.underlying45 F.sz5 (bndLo_nat (a := 56) rfl (by omega)) bndHi_none bndHi_none (fun h_ => by first | rfl | nomatch h_) (by omega) (by omega) (by omega) (.inl ⟨by omega, by omega⟩) (by first | rfl | omega) (by first | rfl | omega)) trivial ?_)
    | (refine rl0 (gn rfl) rfl rfl (step_slice_ro (a := 56) (h := 64) rfl (ev_mk rfl) Try.underlying45 F.sz5 (bndLo_nat (a := 56) rfl (by omega)) bndHi_none (by omega) (by omega) (by first | rfl | (simp; done) | (first | (simp; done) | (rw [List.length_map]; exact hl _ (at_memS (j := j) (by omega))) | (rw [List.length_map]; exact hl _ (at_memS (j := 0) (by omega))) | (rw [List.length_map, pgO_len hl j (by omega) (by omega)]))) (row56 (hl _ (at_memS (j := 0) (by omega))))) trivial ?_)
  refine rl0 (gn rfl) rfl rfl (step_callc rfl Try.func22 rfl rfl rfl (get_c ((at' l 0).drop 56) (bytes_drop (hb _ (at_memS (j := 0) (by omega))) 56) (drop56 (hl _ (at_memS (j := 0) (by omega))))) (by repeat (first | exact .nil | refine .cons ?_ ?_ | exact VLe.refl _ | exact VLe.own_sl _ _ _ | exact VLe.fl_sl _ _ | exact VLe.nil_sl _ | exact VLe.nil_fl _ | refine VLe.agg ?_))) trivial ?_
  refine rl0 (gn rfl) rfl rfl (step_as rfl rfl) trivial ?_
  refine runsL_nil ?_
  refine runs_seq ?_
  refine runs_seq ?_
  refine runs_region ?_
  refine rl0 (gn rfl) rfl rfl (step_mv rfl rfl) trivial ?_
  first
    | refine rl0 (gn rfl) rfl rfl (step_len rfl rfl (ev_mk rfl) (.inl ⟨⟨_, Try.underlying24⟩, .inl ⟨_, _, .inl rfl, List.length_map _⟩⟩)) trivial ?_
    | refine rl0 (gn rfl) rfl rfl (step_len rfl rfl (ev_mk rfl) (.inl ⟨⟨_, Try.underlying24⟩, .inl ⟨_, _, .inl rfl, rfl⟩⟩)) trivial ?_
    | refine rl0 (gn rfl) rfl rfl (step_len rfl rfl (ev_mk rfl) (.inl ⟨⟨_, Try.underlying24⟩, .inl ⟨_, _, .inr (.inl rfl), List.length_map _⟩⟩)) trivial ?_
    | refine rl0 (gn rfl) rfl rfl (step_len rfl rfl (ev_mk rfl) (.inl ⟨⟨_, Try.underlying24⟩, .inl ⟨_, _, .inr (.inl rfl), rfl⟩⟩)) trivial ?_
    | refine rl0 (gn rfl) rfl rfl (step_len rfl rfl (ev_mk rfl) (.inl ⟨⟨_, Try.underlying24⟩, .inl ⟨_, _, .inr (.inr ⟨_, rfl⟩), List.length_map _⟩⟩)) trivial ?_
    | refine rl0 (gn rfl) rfl rfl (step_len rfl rfl (ev_mk rfl) (.inl ⟨⟨_, Try.underlying24⟩, .inl ⟨_, _, .inr (.inr ⟨_, rfl⟩), rfl⟩⟩)) trivial ?_
    | refine rl0 (gn rfl) rfl rfl (step_len rfl rfl (ev_mk rfl) (.inl ⟨⟨_, Try.underlying24⟩, .inr (.inl ⟨_, _, _, _, rfl⟩)⟩)) trivial ?_
    | refine rl0 (gn rfl) rfl rfl (step_len (m := 0) rfl rfl (ev_mk rfl) (.inl ⟨⟨_, Try.underlying24⟩, .inr (.inr ⟨_, _, rfl⟩)⟩)) trivial ?_
  refine rl0 (gn rfl) rfl rfl (step_mv rfl rfl) trivial ?_
  refine runsL_nil ?_
  refine runs_block ?_
  refine runs_loop (fun (i : Nat) (s : Go.Vm.S) => ∃ (j : Nat) (m0 : Nat) (b0 : Nat → Box), (s = ⟨mk [(0, .sl 64 (secsV l)), (2, .ref (n + 0) 0), (5, .ref (n + 1) 0), (6, .sc (.int .u64 (beN ((at' l 0).drop 56)))), (17, .sl 64 (secsV l)), (18, .sc (.int .i64 l.length)), (19, .sc (.int .i64 j))], m0, b0⟩) ∧ (i = l.length - j) ∧ (n + 2 ≤ m0) ∧ (∀ k, k < n → b0 k = bx k) ∧ (b0 (n + 0) = .cells (List.replicate 224 (bV 0))) ∧ (b0 (n + 1) = .cells ((pgO l j).map bV)) ∧ (j ≤ l.length) ∧ (∀ i : Nat, i < j → beN ((at' l (i : Int)).drop 56) = beN ((at' l 0).drop 56))) (l.length) ⟨_, sle ?_ (Nat.le_refl _), 0, _, _, rfl, rfl, ?_⟩ ?_
  · (repeat' (first | exact trivial | refine ⟨⟨_, rfl, ?_⟩, ?_⟩ | fail)); (all_goals first | exact VLe.refl _ | (rw [Int.natCast_add]; exact VLe.refl _) | exact VLe.own_sl _ _ _ | exact VLe.fl_sl _ _ | exact VLe.nil_sl _)
  · exact ⟨by omega, (fun k hk => by first | exact rfl | (refine (upd_ne _ _ _ _ (by omega)).trans ?_; first | exact rfl | skip; repeat (first | exact rfl | refine (upd_ne _ _ _ _ (by omega)).trans ?_ | assumption | exact hf0 _ (by omega) | exact hf1 _ (by omega) | exact hf2 _ (by omega) | exact hf0 _ (by omega) (by first | assumption | omega) | exact hf1 _ (by omega) (by first | assumption | omega))) | exact hf0 _ (by omega) | exact hf1 _ (by omega) | exact hf2 _ (by omega) | exact hf0 _ (by omega) (by first | assumption | omega) | exact hf1 _ (by omega) (by first | assumption | omega)), by repeat (first | exact upd_eq _ _ _ | assumption | refine (upd_ne _ _ _ _ (by omega)).trans ?_ | fail), by repeat (first | exact upd_eq _ _ _ | assumption | refine (upd_ne _ _ _ _ (by omega)).trans ?_ | fail), by omega, fun i hi => by omega⟩
  · rintro _ _ ⟨j, m0, b0, rfl, rfl, hm0, hf0, hB0_0, hB0_1, hF0_0, hF0_1⟩
    refine runs_know (fun hd0 => ?_)
    refine runs_bump 8 ?_
    simp only at hd0
    refine runs_seq ?_
    refine runs_region ?_
    refine rl_lss (gn rfl) rfl rfl rfl rfl rfl (fun h2 => ?_) (fun h2 => ?_)
    · skip
      refine runsL_nil ?_
      refine runs_seq ?_
      refine runs_cond true (ev_mk rfl) (fun _ => ?_) (fun h_ => nomatch h_)
      refine runs_skip ?_
      refine runs_seq ?_
      refine runs_block ?_
      refine runs_seq ?_
      refine runs_region ?_
      refine rl0 (gn rfl) rfl rfl (step_mv rfl rfl) trivial ?_
      first
        | (refine' rl0 (gn rfl) rfl rfl (step_index rfl (ev_mk rfl) (.inl rfl) (ev_mk rfl) Try.underlying24 F.sz45 (by omega) ?hr) trivial ?_; (case hr => exact map_at _ _ _ (by omega) (by omega)))
        | (refine' rl0 (gn rfl) rfl rfl (step_index rfl (ev_mk rfl) (.inr (.inl rfl)) (ev_mk rfl) Try.underlying24 F.sz45 (by omega) ?hr) trivial ?_; (case hr => exact map_at _ _ _ (by omega) (by omega)))
        | (refine' rl0 (gn rfl) rfl rfl (step_index rfl (ev_mk rfl) (.inr (.inr ⟨_, rfl⟩)) (ev_mk rfl) Try.underlying24 F.sz45 (by omega) ?hr) trivial ?_; (case hr => exact map_at _ _ _ (by omega) (by omega)))
        | (refine rl0 (gn rfl) rfl rfl (step_index_msl rfl (ev_mk rfl) (ev_mk rfl) Try.underlying24 F.sz45 (by omega) (by omega)) trivial ?_)
      first
        | (refine' rl0 (gn rfl) rfl rfl (step_load_all rfl rfl F.agg45 ?hl) ⟨?hb, trivial⟩ ?_; (case hb => repeat (first | exact upd_eq _ _ _ | refine (upd_ne _ _ _ _ (by omega)).trans ?_ | assumption | exact hd _ (by omega) | exact hd0 _ (by omega) | exact hd1 _ (by omega) | exact hd2 _ (by omega) | fail)); (case hl => first | rfl | (simp; done) | (first | (simp; done) | (rw [List.length_map]; exact hl _ (at_memS (j := j) (by omega))) | (rw [List.length_map]; exact hl _ (at_memS (j := 0) (by omega))) | (rw [List.length_map, pgO_len hl j (by omega) (by omega)]))))
        | (refine rl0 (gn rfl) rfl rfl (step_load_ro_all rfl rfl F.agg45 (by first | rfl | (simp; done) | (first | (simp; done) | (rw [List.length_map]; exact hl _ (at_memS (j := j) (by omega))) | (rw [List.length_map]; exact hl _ (at_memS (j := 0) (by omega))) | (rw [List.length_map, pgO_len hl j (by omega) (by omega)])))) trivial ?_)
        | (refine' rl0 (gn rfl) rfl rfl (step_load_agg rfl (ev_mk rfl) F.agg45 ?hc ?hl) ⟨?hb, trivial⟩ ?_; (case hb => repeat (first | exact upd_eq _ _ _ | refine (upd_ne _ _ _ _ (by omega)).trans ?_ | assumption | exact hd _ (by omega) | exact hd0 _ (by omega) | exact hd1 _ (by omega) | exact hd2 _ (by omega) | fail)); (case hc => rfl); (case hl => first | rfl | (simp; done)))
        | (refine rl0 (gn rfl) rfl rfl (step_load_ro_agg rfl (ev_mk rfl) F.agg45 rfl rfl) trivial ?_)
      refine rl1 (gn rfl) rfl rfl (step_allocc (k := m0 + 0) (zs := (List.replicate 64 (.int .u8 0))) (cs := List.replicate 64 (.sc (.int .u8 0))) rfl F.zero45 (by first | rfl | simp) (by first | rfl | decide | simp) (by first | rfl | simp)) ⟨by repeat (first | exact upd_eq _ _ _ | refine (upd_ne _ _ _ _ (by omega)).trans ?_ | assumption | exact hd _ (by omega) | exact hd0 _ (by omega) | exact hd1 _ (by omega) | exact hd2 _ (by omega) | fail), trivial⟩ (by omega) ?_
      refine rl0 (gn rfl) rfl rfl (step_as rfl rfl) trivial ?_
      first
        | (refine' rls (gn rfl) rfl (step_storeA rfl rfl rfl rfl F.agg45 ?hm ?hl) ⟨?hb, trivial⟩ ?hk ?_; (case hb => repeat (first | exact upd_eq _ _ _ | refine (upd_ne _ _ _ _ (by omega)).trans ?_ | assumption | exact hd _ (by omega) | exact hd0 _ (by omega) | exact hd1 _ (by omega) | exact hd2 _ (by omega) | fail)); (case hm => first | rfl | (simp; done) | (first | (simp; done) | (rw [List.length_map]; exact hl _ (at_memS (j := j) (by omega))) | (rw [List.length_map]; exact hl _ (at_memS (j := 0) (by omega))) | (rw [List.length_map, pgO_len hl j (by omega) (by omega)]))); (case hl => first | rfl | (simp; done) | (first | (simp; done) | (rw [List.length_map]; exact hl _ (at_memS (j := j) (by omega))) | (rw [List.length_map]; exact hl _ (at_memS (j := 0) (by omega))) | (rw [List.length_map, pgO_len hl j (by omega) (by omega)]))); (case hk => omega))
        | (refine' rls (gn rfl) rfl (step_storeS rfl rfl rfl rfl F.agg45 ?hm ?hl ?hc) ⟨?hb, trivial⟩ ?hk ?_; (case hb => repeat (first | exact upd_eq _ _ _ | refine (upd_ne _ _ _ _ (by omega)).trans ?_ | assumption | exact hd _ (by omega) | exact hd0 _ (by omega) | exact hd1 _ (by omega) | exact hd2 _ (by omega) | fail)); (case hm => first | rfl | (simp; done) | (first | (simp; done) | (rw [List.length_map]; exact hl _ (at_memS (j := j) (by omega))) | (rw [List.length_map]; exact hl _ (at_memS (j := 0) (by omega))) | (rw [List.length_map, pgO_len hl j (by omega) (by omega)]))); (case hl => first | decide | (simp; done) | (first | (simp; done) | (rw [List.length_map]; exact hl _ (at_memS (j := j) (by omega))) | (rw [List.length_map]; exact hl _ (at_memS (j := 0) (by omega))) | (rw [List.length_map, pgO_len hl j (by omega) (by omega)]))); (case hc => rfl); (case hk => omega))
      refine runsL_nil ?_
      refine runs_seq ?_
      refine runs_seq ?_
      refine runs_region ?_
      first
        | (refine rl0 (gn rfl) rfl rfl (step_sl_arr (a := 56) (h := 64) (m := 64) (q' := 56) (n' := 8) (c' := 8) rfl (ev_mk rfl) Try.underlying45 F.sz5 (bndLo_nat (a := 56) rfl (by omega)) bndHi_none bndHi_none (fun h_ => by first | rfl | nomatch h_) (by omega) (by omega) (by omega) (.inl ⟨by omega, by omega⟩) (by first | rfl | omega) (by first | rfl | omega)) trivial ?_)
        | (refine rl0 (gn rfl) rfl rfl (step_slice_ro (a := 56) (h := 64) rfl (ev_mk rfl) Try.underlying45 F.sz5 (bndLo_nat (a := 56) rfl (by omega)) bndHi_none (by omega) (by omega) (by first | rfl | (simp; done) | (first | (simp; done) | (rw [List.length_map]; exact hl _ (at_memS (j := j) (by omega))) | (rw [List.length_map]; exact hl _ (at_memS (j := 0) (by omega))) | (rw [List.length_map, pgO_len hl j (by omega) (by omega)]))) (rfl)) trivial ?_)
      refine rl0 (gn rfl) rfl rfl (step_callc rfl Try.func22 rfl rfl rfl (get_m (m0 + 0) 56 8 ((at' l (j : Int)).map bV) ((at' l (j : Int)).drop 56) (bytes_drop (hb _ (at_memS (j := j) (by omega))) 56) (drop56 (hl _ (at_memS (j := j) (by omega)))) (by omega) (fun i hi => at_drop (hl _ (at_memS (j := j) (by omega))) hi)) (by repeat (first | exact .nil | refine .cons ?_ ?_ | exact VLe.refl _ | exact VLe.own_sl _ _ _ | exact VLe.fl_sl _ _ | exact VLe.nil_sl _ | exact VLe.nil_fl _ | refine VLe.agg ?_))) ⟨by repeat (first | exact upd_eq _ _ _ | refine (upd_ne _ _ _ _ (by omega)).trans ?_ | assumption | exact hd _ (by omega) | exact hd0 _ (by omega) | exact hd1 _ (by omega) | exact hd2 _ (by omega) | fail), trivial⟩ ?_
      refine rl0 (gn rfl) rfl rfl (step_mv rfl rfl) trivial ?_
      refine rl_neq (gn rfl) rfl rfl rfl rfl rfl (fun h3 => ?_) (fun h3 => ?_)
      · skip
        refine runsL_nil ?_
        refine runs_cond true (ev_mk rfl) (fun _ => ?_) (fun h_ => nomatch h_)
        refine runs_seq ?_
        refine runs_region ?_
        refine rl0 (gn rfl) rfl rfl (step_build_zero rfl rfl Try.underlying22 F.sz5 F.zero22 rfl) trivial ?_
        first
          | (refine' rls (gn rfl) rfl (step_storeA rfl rfl rfl rfl F.agg22 ?hm ?hl) ⟨?hb, trivial⟩ ?hk ?_; (case hb => repeat (first | exact upd_eq _ _ _ | refine (upd_ne _ _ _ _ (by omega)).trans ?_ | assumption | exact hd _ (by omega) | exact hd0 _ (by omega) | exact hd1 _ (by omega) | exact hd2 _ (by omega) | fail)); (case hm => first | rfl | (simp; done) | (first | (simp; done) | (rw [List.length_map]; exact hl _ (at_memS (j := j) (by omega))) | (rw [List.length_map]; exact hl _ (at_memS (j := 0) (by omega))) | (rw [List.length_map, pgO_len hl j (by omega) (by omega)]))); (case hl => first | rfl | (simp; done) | (first | (simp; done) | (rw [List.length_map]; exact hl _ (at_memS (j := j) (by omega))) | (rw [List.length_map]; exact hl _ (at_memS (j := 0) (by omega))) | (rw [List.length_map, pgO_len hl j (by omega) (by omega)]))); (case hk => omega))
          | (refine' rls (gn rfl) rfl (step_storeS rfl rfl rfl rfl F.agg22 ?hm ?hl ?hc) ⟨?hb, trivial⟩ ?hk ?_; (case hb => repeat (first | exact upd_eq _ _ _ | refine (upd_ne _ _ _ _ (by omega)).trans ?_ | assumption | exact hd _ (by omega) | exact hd0 _ (by omega) | exact hd1 _ (by omega) | exact hd2 _ (by omega) | fail)); (case hm => first | rfl | (simp; done) | (first | (simp; done) | (rw [List.length_map]; exact hl _ (at_memS (j := j) (by omega))) | (rw [List.length_map]; exact hl _ (at_memS (j := 0) (by omega))) | (rw [List.length_map, pgO_len hl j (by omega) (by omega)]))); (case hl => first | decide | (simp; done) | (first | (simp; done) | (rw [List.length_map]; exact hl _ (at_memS (j := j) (by omega))) | (rw [List.length_map]; exact hl _ (at_memS (j := 0) (by omega))) | (rw [List.length_map, pgO_len hl j (by omega) (by omega)]))); (case hc => rfl); (case hk => omega))
        refine rl0 (gn rfl) rfl rfl (step_as rfl rfl) trivial ?_
        refine rl0 (gn rfl) rfl rfl (step_as rfl rfl) trivial ?_
        refine runsL_nil ?_
        refine runs_ret ?_
        refine ⟨by first | exact .inr rfl | exact .inl rfl, fin_mk (resc rfl (by repeat (first | exact upd_eq _ _ _ | refine (upd_ne _ _ _ _ (by omega)).trans ?_ | assumption | exact hd _ (by omega) | exact hd0 _ (by omega) | exact hd1 _ (by omega) | exact hd2 _ (by omega) | fail)) F.agg22 (by first | rfl | (first | (simp; done) | (rw [List.length_map]; exact hl _ (at_memS (j := j) (by omega))) | (rw [List.length_map]; exact hl _ (at_memS (j := 0) (by omega))) | (rw [List.length_map, pgO_len hl j (by omega) (by omega)]))) (rest rfl (rest rfl res0))) ?_ ?_ ?_ ?_⟩
        · first | exact VLe.refl _ | exact VLe.own_sl _ _ _ | exact VLe.fl_sl _ _
        · repeat (first | exact trivial | assumption | omega | exact bd_bs | exact bd_row | exact bd_secs | exact bd_bools | refine ⟨?_, ?_⟩ | fail)
        · intro k hk; exact ble (by first | exact rfl | (refine (upd_ne _ _ _ _ (by omega)).trans ?_; first | exact rfl | skip; repeat (first | exact rfl | refine (upd_ne _ _ _ _ (by omega)).trans ?_ | assumption | exact hf0 _ (by omega) | exact hf1 _ (by omega) | exact hf2 _ (by omega) | exact hf0 _ (by omega) (by first | assumption | omega) | exact hf1 _ (by omega) (by first | assumption | omega))) | exact hf0 _ (by omega) | exact hf1 _ (by omega) | exact hf2 _ (by omega) | exact hf0 _ (by omega) (by first | assumption | omega) | exact hf1 _ (by omega) (by first | assumption | omega))
        · intro p hp; cases hp
      · skip
        refine runsL_nil ?_
        refine runs_cond false (ev_mk rfl) (fun h_ => nomatch h_) (fun _ => ?_)
        refine runs_skip ?_
        refine runs_draw (by kernel_rfl) (by kernel_rfl) (by kernel_rfl) ?_
        refine dl0 (gn rfl) rfl rfl (step_mv rfl rfl) trivial ?_
        refine dl0 (gn rfl) rfl rfl (step_mul rfl (ev_mk rfl) (ev_mk rfl) (w64 (by omega))) trivial ?_
        first
          | (refine dl0 (gn rfl) rfl rfl (step_sl_arr (a := (56 * j)) (h := 224) (m := 224) (q' := (56 * j)) (n' := (224 - (56 * j))) (c' := (224 - (56 * j))) rfl (ev_mk rfl) Try.underlying22 F.sz5 (bndLo_nat (a := (56 * j)) rfl (by omega)) bndHi_none bndHi_none (fun h_ => by first | rfl | nomatch h_) (by omega) (by omega) (by omega) (.inl ⟨by omega, by omega⟩) (by first | rfl | omega) (by first | rfl | omega)) trivial ?_)
          | (refine dl0 (gn rfl) rfl rfl (step_slice_ro (a := (56 * j)) (h := 224) rfl (ev_mk rfl) Try.underlying22 F.sz5 (bndLo_nat (a := (56 * j)) rfl (by omega)) bndHi_none (by omega) (by omega) (by first | rfl | (simp; done) | (first | (simp; done) | (rw [List.length_map]; exact hl _ (at_memS (j := j) (by omega))) | (rw [List.length_map]; exact hl _ (at_memS (j := 0) (by omega))) | (rw [List.length_map, pgO_len hl j (by omega) (by omega)]))) (rfl)) trivial ?_)
        first
          | (refine dl0 (gn rfl) rfl rfl (step_sl_arr (a := 0) (h := 56) (m := 64) (q' := 0) (n' := 56) (c' := 64) rfl (ev_mk rfl) Try.underlying45 F.sz5 bndLo_none (bndHi_nat (a := 56) rfl (by omega)) bndHi_none (fun h_ => by first | rfl | nomatch h_) (by omega) (by omega) (by omega) (.inl ⟨by omega, by omega⟩) (by first | rfl | omega) (by first | rfl | omega)) trivial ?_)
          | (refine dl0 (gn rfl) rfl rfl (step_slice_ro (a := 0) (h := 56) rfl (ev_mk rfl) Try.underlying45 F.sz5 bndLo_none (bndHi_nat (a := 56) rfl (by omega)) (by omega) (by omega) (by first | rfl | (simp; done) | (first | (simp; done) | (rw [List.length_map]; exact hl _ (at_memS (j := j) (by omega))) | (rw [List.length_map]; exact hl _ (at_memS (j := 0) (by omega))) | (rw [List.length_map, pgO_len hl j (by omega) (by omega)]))) (rfl)) trivial ?_)
        refine' dl1 (gn rfl) rfl rfl (step_copy rfl rfl Try.underlying48 F.sz5 (ev_mk rfl) (ev_mk rfl) (gives_msl (ys := bytesV ((at' l (j : Int)).take 56)) ?hl2 ?hy2) ?hmn ?hl ?hcs) ⟨?hb, ⟨?hm2, trivial⟩⟩ (by omega) ?_
        case hb => repeat (first | exact upd_eq _ _ _ | refine (upd_ne _ _ _ _ (by omega)).trans ?_ | assumption | exact hd _ (by omega) | exact hd0 _ (by omega) | exact hd1 _ (by omega) | exact hd2 _ (by omega) | fail)
        case hmn => exact Nat.min_eq_left (by simp [bytesV]; omega)
        case hl => rw [List.length_map, pgO_len hl j (by omega) (by omega)]; omega
        case hcs => exact (congrArg (setSeg _ _) (congrArg List.flatten (List.take_of_length_le (by rw [bytesV, List.length_map, List.length_take]; omega)))).trans (pgO_set hl j (by omega) h4)
        case hm2 => repeat (first | exact upd_eq _ _ _ | refine (upd_ne _ _ _ _ (by omega)).trans ?_ | assumption | exact hd _ (by omega) | exact hd0 _ (by omega) | exact hd1 _ (by omega) | exact hd2 _ (by omega) | fail)
        case hl2 => rw [List.length_map, hl _ (at_memS (j := j) (by omega))]; omega
        case hy2 => exact rows_take (hl _ (at_memS (j := j) (by omega)))
        refine dlnil ?_ ?_
        · repeat' (first | exact trivial | exact .inr (ap0 _ _ _ _) | exact .inr (ap2 _ _ _ _) | exact .inr (ap3 _ _ _ _) | exact .inr ⟨by first | (simp; done) | (simp; omega), by first | (simp; done) | (simp; omega)⟩ | exact .inl (by kernel_rfl) | refine ⟨?_, ?_⟩ | fail)
        refine runs_region ?_
        refine rl0 (gn rfl) rfl rfl (step_add rfl (ev_mk rfl) (ev_mk rfl) (w64 (by omega))) trivial ?_
        refine rl0 (gn rfl) rfl rfl (step_mv rfl rfl) trivial ?_
        refine runsL_nil ?_
        refine ⟨_, _, ?_, sle ?_ (Nat.le_refl _), j + 1, _, _, rfl, rfl, by omega, (fun k hk => by repeat (first | exact hf0 k hk | exact hf0 k hk | exact hf1 k hk | exact hf2 k hk | refine (upd_ne _ _ _ _ (by first | assumption | omega)).trans ?_ | fail)), by repeat (first | exact upd_eq _ _ _ | assumption | refine (upd_ne _ _ _ _ (by omega)).trans ?_ | fail), by repeat (first | exact upd_eq _ _ _ | assumption | refine (upd_ne _ _ _ _ (by omega)).trans ?_ | fail), by omega, fun i hi => by (rcases Nat.lt_succ_iff_lt_or_eq.mp hi with h_ | h_); exact hF0_1 i h_; (subst h_; assumption)⟩
        · omega
        · (repeat' (first | exact trivial | refine ⟨⟨_, rfl, ?_⟩, ?_⟩ | fail)); (all_goals first | exact VLe.refl _ | (rw [Int.natCast_add]; exact VLe.refl _) | exact VLe.own_sl _ _ _ | exact VLe.fl_sl _ _ | exact VLe.nil_sl _)
    · skip
      exfalso
      obtain ⟨r, hr, hn⟩ := ht
      obtain ⟨i, hi, rfl⟩ := List.getElem_of_mem hr
      exact hn (by have h_ := hF0_1 i (by omega); rwa [at_nat _ _ hi] at h_)
set_option maxRecDepth 100000 in
set_option maxHeartbeats 4000000 in
theorem lget_ok (l : List (List Int)) (hl : ∀ r ∈ l, r.length = 64) (hb : ∀ r ∈ l, bytes r) (hL : (l.length : Int) ≤ 9223372036854775807) (h4 : l.length = 4) (ht : ∀ r ∈ l, beN (r.drop 56) = beN ((at' l 0).drop 56)) : Does Try.prog 8 [.sl 64 (secsV l)] [] [] (.tup [.agg ((pgO l 4).map bV), .sc (.int .u64 (beN ((at' l 0).drop 56))), .sc (.bool true)]) := by
  refine does_mk 20 Try.func8 rfl rfl rfl (fun n B bx hd hpre hup hvs hbx => ?_)
  refine runs_seq ?_
  refine runs_region ?_
  refine rl1 (gn rfl) rfl rfl (step_allocc (k := n + 0) (zs := (List.replicate 224 (.int .u8 0))) (cs := List.replicate 224 (.sc (.int .u8 0))) rfl F.zero22 (by first | rfl | simp) (by first | rfl | decide | simp) (by first | rfl | simp)) ⟨by repeat (first | exact upd_eq _ _ _ | refine (upd_ne _ _ _ _ (by omega)).trans ?_ | assumption | exact hd _ (by omega) | exact hd0 _ (by omega) | exact hd1 _ (by omega) | exact hd2 _ (by omega) | fail), trivial⟩ (by omega) ?_
  refine rl0 (gn rfl) rfl rfl (step_as rfl rfl) trivial ?_
  refine rl0 (gn rfl) rfl rfl (step_as rfl rfl) trivial ?_
  refine runsL_nil ?_
  refine runs_seq ?_
  refine runs_region ?_
  refine rl1 (gn rfl) rfl rfl (step_allocc (k := n + 1) (zs := (List.replicate 224 (.int .u8 0))) (cs := List.replicate 224 (.sc (.int .u8 0))) rfl F.zero22 (by first | rfl | simp) (by first | rfl | decide | simp) (by first | rfl | simp)) ⟨by repeat (first | exact upd_eq _ _ _ | refine (upd_ne _ _ _ _ (by omega)).trans ?_ | assumption | exact hd _ (by omega) | exact hd0 _ (by omega) | exact hd1 _ (by omega) | exact hd2 _ (by omega) | fail), trivial⟩ (by omega) ?_
  refine runsL_nil ?_
  refine runs_seq ?_
  refine runs_seq ?_
  refine runs_region ?_
  refine rl0 (gn rfl) rfl rfl (step_mv rfl rfl) trivial ?_
  first
    | refine rl0 (gn rfl) rfl rfl (step_len rfl rfl (ev_mk rfl) (.inl ⟨⟨_, Try.underlying24⟩, .inl ⟨_, _, .inl rfl, List.length_map _⟩⟩)) trivial ?_
    | refine rl0 (gn rfl) rfl rfl (step_len rfl rfl (ev_mk rfl) (.inl ⟨⟨_, Try.underlying24⟩, .inl ⟨_, _, .inl rfl, rfl⟩⟩)) trivial ?_
    | refine rl0 (gn rfl) rfl rfl (step_len rfl rfl (ev_mk rfl) (.inl ⟨⟨_, Try.underlying24⟩, .inl ⟨_, _, .inr (.inl rfl), List.length_map _⟩⟩)) trivial ?_
    | refine rl0 (gn rfl) rfl rfl (step_len rfl rfl (ev_mk rfl) (.inl ⟨⟨_, Try.underlying24⟩, .inl ⟨_, _, .inr (.inl rfl), rfl⟩⟩)) trivial ?_
    | refine rl0 (gn rfl) rfl rfl (step_len rfl rfl (ev_mk rfl) (.inl ⟨⟨_, Try.underlying24⟩, .inl ⟨_, _, .inr (.inr ⟨_, rfl⟩), List.length_map _⟩⟩)) trivial ?_
    | refine rl0 (gn rfl) rfl rfl (step_len rfl rfl (ev_mk rfl) (.inl ⟨⟨_, Try.underlying24⟩, .inl ⟨_, _, .inr (.inr ⟨_, rfl⟩), rfl⟩⟩)) trivial ?_
    | refine rl0 (gn rfl) rfl rfl (step_len rfl rfl (ev_mk rfl) (.inl ⟨⟨_, Try.underlying24⟩, .inr (.inl ⟨_, _, _, _, rfl⟩)⟩)) trivial ?_
    | refine rl0 (gn rfl) rfl rfl (step_len (m := 0) rfl rfl (ev_mk rfl) (.inl ⟨⟨_, Try.underlying24⟩, .inr (.inr ⟨_, _, rfl⟩)⟩)) trivial ?_
  refine rl_neq (gn rfl) rfl rfl rfl rfl rfl (fun h1 => ?_) (fun h1 => ?_)
  · exact absurd h1 (by omega)
  refine runsL_nil ?_
  refine runs_cond false (ev_mk rfl) (fun h_ => nomatch h_) (fun _ => ?_)
  refine runs_skip ?_
  refine runs_seq ?_
  refine runs_region ?_
  refine rl0 (gn rfl) rfl rfl (step_mv rfl rfl) trivial ?_
  first
    | (refine' rl0 (gn rfl) rfl rfl (step_index rfl (ev_mk rfl) (.inl rfl) (ev_mk rfl) Try.underlying24 F.sz45 (by omega) ?hr) trivial ?_; (case hr => exact map_at _ _ _ (by omega) (by omega)))
    | (refine' rl0 (gn rfl) rfl rfl (step_index rfl (ev_mk rfl) (.inr (.inl rfl)) (ev_mk rfl) Try.underlying24 F.sz45 (by omega) ?hr) trivial ?_; (case hr => exact map_at _ _ _ (by omega) (by omega)))
    | (refine' rl0 (gn rfl) rfl rfl (step_index rfl (ev_mk rfl) (.inr (.inr ⟨_, rfl⟩)) (ev_mk rfl) Try.underlying24 F.sz45 (by omega) ?hr) trivial ?_; (case hr => exact map_at _ _ _ (by omega) (by omega)))
    | (refine rl0 (gn rfl) rfl rfl (step_index_msl rfl (ev_mk rfl) (ev_mk rfl) Try.underlying24 F.sz45 (by omega) (by omega)) trivial ?_)
  first
    | (refine rl0 (gn rfl) rfl rfl (step_sl_arr (a := 56) (h := 64) (m := 64) (q' := 56) (n' := 8) (c' := 8) rfl (ev_mk rfl) Try.underlying45 F.sz5 (bndLo_nat (a := 56) rfl (by omega)) bndHi_none bndHi_none (fun h_ => by first | rfl | nomatch h_) (by omega) (by omega) (by omega) (.inl ⟨by omega, by omega⟩) (by first | rfl | omega) (by first | rfl | omega)) trivial ?_)
    | (refine rl0 (gn rfl) rfl rfl (step_slice_ro (a := 56) (h := 64) rfl (ev_mk rfl) Try.underlying45 F.sz5 (bndLo_nat (a := 56) rfl (by omega)) bndHi_none (by omega) (by omega) (by first | rfl | (simp; done) | (first | (simp; done) | (rw [List.length_map]; exact hl _ (at_memS (j := j) (by omega))) | (rw [List.length_map]; exact hl _ (at_memS (j := 0) (by omega))) | (rw [List.length_map, pgO_len hl j (by omega) (by omega)]))) (row56 (hl _ (at_memS (j := 0) (by omega))))) trivial ?_)
  refine rl0 (gn rfl) rfl rfl (step_callc rfl Try.func22 rfl rfl rfl (get_c ((at' l 0).drop 56) (bytes_drop (hb _ (at_memS (j := 0) (by omega))) 56) (drop56 (hl _ (at_memS (j := 0) (by omega))))) (by repeat (first | exact .nil | refine .cons ?_ ?_ | exact VLe.refl _ | exact VLe.own_sl _ _ _ | exact VLe.fl_sl _ _ | exact VLe.nil_sl _ | exact VLe.nil_fl _ | refine VLe.agg ?_))) trivial ?_
  refine rl0 (gn rfl) rfl rfl (step_as rfl rfl) trivial ?_
  refine runsL_nil ?_
  refine runs_seq ?_
  refine runs_seq ?_
  refine runs_region ?_
  refine rl0 (gn rfl) rfl rfl (step_mv rfl rfl) trivial ?_
  first
    | refine rl0 (gn rfl) rfl rfl (step_len rfl rfl (ev_mk rfl) (.inl ⟨⟨_, Try.underlying24⟩, .inl ⟨_, _, .inl rfl, List.length_map _⟩⟩)) trivial ?_
    | refine rl0 (gn rfl) rfl rfl (step_len rfl rfl (ev_mk rfl) (.inl ⟨⟨_, Try.underlying24⟩, .inl ⟨_, _, .inl rfl, rfl⟩⟩)) trivial ?_
    | refine rl0 (gn rfl) rfl rfl (step_len rfl rfl (ev_mk rfl) (.inl ⟨⟨_, Try.underlying24⟩, .inl ⟨_, _, .inr (.inl rfl), List.length_map _⟩⟩)) trivial ?_
    | refine rl0 (gn rfl) rfl rfl (step_len rfl rfl (ev_mk rfl) (.inl ⟨⟨_, Try.underlying24⟩, .inl ⟨_, _, .inr (.inl rfl), rfl⟩⟩)) trivial ?_
    | refine rl0 (gn rfl) rfl rfl (step_len rfl rfl (ev_mk rfl) (.inl ⟨⟨_, Try.underlying24⟩, .inl ⟨_, _, .inr (.inr ⟨_, rfl⟩), List.length_map _⟩⟩)) trivial ?_
    | refine rl0 (gn rfl) rfl rfl (step_len rfl rfl (ev_mk rfl) (.inl ⟨⟨_, Try.underlying24⟩, .inl ⟨_, _, .inr (.inr ⟨_, rfl⟩), rfl⟩⟩)) trivial ?_
    | refine rl0 (gn rfl) rfl rfl (step_len rfl rfl (ev_mk rfl) (.inl ⟨⟨_, Try.underlying24⟩, .inr (.inl ⟨_, _, _, _, rfl⟩)⟩)) trivial ?_
    | refine rl0 (gn rfl) rfl rfl (step_len (m := 0) rfl rfl (ev_mk rfl) (.inl ⟨⟨_, Try.underlying24⟩, .inr (.inr ⟨_, _, rfl⟩)⟩)) trivial ?_
  refine rl0 (gn rfl) rfl rfl (step_mv rfl rfl) trivial ?_
  refine runsL_nil ?_
  refine runs_block ?_
  refine runs_loop (fun (i : Nat) (s : Go.Vm.S) => ∃ (j : Nat) (m0 : Nat) (b0 : Nat → Box), (s = ⟨mk [(0, .sl 64 (secsV l)), (2, .ref (n + 0) 0), (5, .ref (n + 1) 0), (6, .sc (.int .u64 (beN ((at' l 0).drop 56)))), (17, .sl 64 (secsV l)), (18, .sc (.int .i64 l.length)), (19, .sc (.int .i64 j))], m0, b0⟩) ∧ (i = l.length - j) ∧ (n + 2 ≤ m0) ∧ (∀ k, k < n → b0 k = bx k) ∧ (b0 (n + 0) = .cells (List.replicate 224 (bV 0))) ∧ (b0 (n + 1) = .cells ((pgO l j).map bV)) ∧ (j ≤ l.length) ∧ (∀ i : Nat, i < j → beN ((at' l (i : Int)).drop 56) = beN ((at' l 0).drop 56))) (l.length) ⟨_, sle ?_ (Nat.le_refl _), 0, _, _, rfl, rfl, ?_⟩ ?_
  · (repeat' (first | exact trivial | refine ⟨⟨_, rfl, ?_⟩, ?_⟩ | fail)); (all_goals first | exact VLe.refl _ | (rw [Int.natCast_add]; exact VLe.refl _) | exact VLe.own_sl _ _ _ | exact VLe.fl_sl _ _ | exact VLe.nil_sl _)
  · exact ⟨by omega, (fun k hk => by first | exact rfl | (refine (upd_ne _ _ _ _ (by omega)).trans ?_; first | exact rfl | skip; repeat (first | exact rfl | refine (upd_ne _ _ _ _ (by omega)).trans ?_ | assumption | exact hf0 _ (by omega) | exact hf1 _ (by omega) | exact hf2 _ (by omega) | exact hf0 _ (by omega) (by first | assumption | omega) | exact hf1 _ (by omega) (by first | assumption | omega))) | exact hf0 _ (by omega) | exact hf1 _ (by omega) | exact hf2 _ (by omega) | exact hf0 _ (by omega) (by first | assumption | omega) | exact hf1 _ (by omega) (by first | assumption | omega)), by repeat (first | exact upd_eq _ _ _ | assumption | refine (upd_ne _ _ _ _ (by omega)).trans ?_ | fail), by repeat (first | exact upd_eq _ _ _ | assumption | refine (upd_ne _ _ _ _ (by omega)).trans ?_ | fail), by omega, fun i hi => by omega⟩
  · rintro _ _ ⟨j, m0, b0, rfl, rfl, hm0, hf0, hB0_0, hB0_1, hF0_0, hF0_1⟩
    refine runs_know (fun hd0 => ?_)
    refine runs_bump 8 ?_
    simp only at hd0
    refine runs_seq ?_
    refine runs_region ?_
    refine rl_lss (gn rfl) rfl rfl rfl rfl rfl (fun h2 => ?_) (fun h2 => ?_)
    · skip
      refine runsL_nil ?_
      refine runs_seq ?_
      refine runs_cond true (ev_mk rfl) (fun _ => ?_) (fun h_ => nomatch h_)
      refine runs_skip ?_
      refine runs_seq ?_
      refine runs_block ?_
      refine runs_seq ?_
      refine runs_region ?_
      refine rl0 (gn rfl) rfl rfl (step_mv rfl rfl) trivial ?_
      first
        | (refine' rl0 (gn rfl) rfl rfl (step_index rfl (ev_mk rfl) (.inl rfl) (ev_mk rfl) Try.underlying24 F.sz45 (by omega) ?hr) trivial ?_; (case hr => exact map_at _ _ _ (by omega) (by omega)))
        | (refine' rl0 (gn rfl) rfl rfl (step_index rfl (ev_mk rfl) (.inr (.inl rfl)) (ev_mk rfl) Try.underlying24 F.sz45 (by omega) ?hr) trivial ?_; (case hr => exact map_at _ _ _ (by omega) (by omega)))
        | (refine' rl0 (gn rfl) rfl rfl (step_index rfl (ev_mk rfl) (.inr (.inr ⟨_, rfl⟩)) (ev_mk rfl) Try.underlying24 F.sz45 (by omega) ?hr) trivial ?_; (case hr => exact map_at _ _ _ (by omega) (by omega)))
        | (refine rl0 (gn rfl) rfl rfl (step_index_msl rfl (ev_mk rfl) (ev_mk rfl) Try.underlying24 F.sz45 (by omega) (by omega)) trivial ?_)
      first
        | (refine' rl0 (gn rfl) rfl rfl (step_load_all rfl rfl F.agg45 ?hl) ⟨?hb, trivial⟩ ?_; (case hb => repeat (first | exact upd_eq _ _ _ | refine (upd_ne _ _ _ _ (by omega)).trans ?_ | assumption | exact hd _ (by omega) | exact hd0 _ (by omega) | exact hd1 _ (by omega) | exact hd2 _ (by omega) | fail)); (case hl => first | rfl | (simp; done) | (first | (simp; done) | (rw [List.length_map]; exact hl _ (at_memS (j := j) (by omega))) | (rw [List.length_map]; exact hl _ (at_memS (j := 0) (by omega))) | (rw [List.length_map, pgO_len hl j (by omega) (by omega)]))))
        | (refine rl0 (gn rfl) rfl rfl (step_load_ro_all rfl rfl F.agg45 (by first | rfl | (simp; done) | (first | (simp; done) | (rw [List.length_map]; exact hl _ (at_memS (j := j) (by omega))) | (rw [List.length_map]; exact hl _ (at_memS (j := 0) (by omega))) | (rw [List.length_map, pgO_len hl j (by omega) (by omega)])))) trivial ?_)
        | (refine' rl0 (gn rfl) rfl rfl (step_load_agg rfl (ev_mk rfl) F.agg45 ?hc ?hl) ⟨?hb, trivial⟩ ?_; (case hb => repeat (first | exact upd_eq _ _ _ | refine (upd_ne _ _ _ _ (by omega)).trans ?_ | assumption | exact hd _ (by omega) | exact hd0 _ (by omega) | exact hd1 _ (by omega) | exact hd2 _ (by omega) | fail)); (case hc => rfl); (case hl => first | rfl | (simp; done)))
        | (refine rl0 (gn rfl) rfl rfl (step_load_ro_agg rfl (ev_mk rfl) F.agg45 rfl rfl) trivial ?_)
      refine rl1 (gn rfl) rfl rfl (step_allocc (k := m0 + 0) (zs := (List.replicate 64 (.int .u8 0))) (cs := List.replicate 64 (.sc (.int .u8 0))) rfl F.zero45 (by first | rfl | simp) (by first | rfl | decide | simp) (by first | rfl | simp)) ⟨by repeat (first | exact upd_eq _ _ _ | refine (upd_ne _ _ _ _ (by omega)).trans ?_ | assumption | exact hd _ (by omega) | exact hd0 _ (by omega) | exact hd1 _ (by omega) | exact hd2 _ (by omega) | fail), trivial⟩ (by omega) ?_
      refine rl0 (gn rfl) rfl rfl (step_as rfl rfl) trivial ?_
      first
        | (refine' rls (gn rfl) rfl (step_storeA rfl rfl rfl rfl F.agg45 ?hm ?hl) ⟨?hb, trivial⟩ ?hk ?_; (case hb => repeat (first | exact upd_eq _ _ _ | refine (upd_ne _ _ _ _ (by omega)).trans ?_ | assumption | exact hd _ (by omega) | exact hd0 _ (by omega) | exact hd1 _ (by omega) | exact hd2 _ (by omega) | fail)); (case hm => first | rfl | (simp; done) | (first | (simp; done) | (rw [List.length_map]; exact hl _ (at_memS (j := j) (by omega))) | (rw [List.length_map]; exact hl _ (at_memS (j := 0) (by omega))) | (rw [List.length_map, pgO_len hl j (by omega) (by omega)]))); (case hl => first | rfl | (simp; done) | (first | (simp; done) | (rw [List.length_map]; exact hl _ (at_memS (j := j) (by omega))) | (rw [List.length_map]; exact hl _ (at_memS (j := 0) (by omega))) | (rw [List.length_map, pgO_len hl j (by omega) (by omega)]))); (case hk => omega))
        | (refine' rls (gn rfl) rfl (step_storeS rfl rfl rfl rfl F.agg45 ?hm ?hl ?hc) ⟨?hb, trivial⟩ ?hk ?_; (case hb => repeat (first | exact upd_eq _ _ _ | refine (upd_ne _ _ _ _ (by omega)).trans ?_ | assumption | exact hd _ (by omega) | exact hd0 _ (by omega) | exact hd1 _ (by omega) | exact hd2 _ (by omega) | fail)); (case hm => first | rfl | (simp; done) | (first | (simp; done) | (rw [List.length_map]; exact hl _ (at_memS (j := j) (by omega))) | (rw [List.length_map]; exact hl _ (at_memS (j := 0) (by omega))) | (rw [List.length_map, pgO_len hl j (by omega) (by omega)]))); (case hl => first | decide | (simp; done) | (first | (simp; done) | (rw [List.length_map]; exact hl _ (at_memS (j := j) (by omega))) | (rw [List.length_map]; exact hl _ (at_memS (j := 0) (by omega))) | (rw [List.length_map, pgO_len hl j (by omega) (by omega)]))); (case hc => rfl); (case hk => omega))
      refine runsL_nil ?_
      refine runs_seq ?_
      refine runs_seq ?_
      refine runs_region ?_
      first
        | (refine rl0 (gn rfl) rfl rfl (step_sl_arr (a := 56) (h := 64) (m := 64) (q' := 56) (n' := 8) (c' := 8) rfl (ev_mk rfl) Try.underlying45 F.sz5 (bndLo_nat (a := 56) rfl (by omega)) bndHi_none bndHi_none (fun h_ => by first | rfl | nomatch h_) (by omega) (by omega) (by omega) (.inl ⟨by omega, by omega⟩) (by first | rfl | omega) (by first | rfl | omega)) trivial ?_)
        | (refine rl0 (gn rfl) rfl rfl (step_slice_ro (a := 56) (h := 64) rfl (ev_mk rfl) Try.underlying45 F.sz5 (bndLo_nat (a := 56) rfl (by omega)) bndHi_none (by omega) (by omega) (by first | rfl | (simp; done) | (first | (simp; done) | (rw [List.length_map]; exact hl _ (at_memS (j := j) (by omega))) | (rw [List.length_map]; exact hl _ (at_memS (j := 0) (by omega))) | (rw [List.length_map, pgO_len hl j (by omega) (by omega)]))) (rfl)) trivial ?_)
      refine rl0 (gn rfl) rfl rfl (step_callc rfl Try.func22 rfl rfl rfl (get_m (m0 + 0) 56 8 ((at' l (j : Int)).map bV) ((at' l (j : Int)).drop 56) (bytes_drop (hb _ (at_memS (j := j) (by omega))) 56) (drop56 (hl _ (at_memS (j := j) (by omega)))) (by omega) (fun i hi => at_drop (hl _ (at_memS (j := j) (by omega))) hi)) (by repeat (first | exact .nil | refine .cons ?_ ?_ | exact VLe.refl _ | exact VLe.own_sl _ _ _ | exact VLe.fl_sl _ _ | exact VLe.nil_sl _ | exact VLe.nil_fl _ | refine VLe.agg ?_))) ⟨by repeat (first | exact upd_eq _ _ _ | refine (upd_ne _ _ _ _ (by omega)).trans ?_ | assumption | exact hd _ (by omega) | exact hd0 _ (by omega) | exact hd1 _ (by omega) | exact hd2 _ (by omega) | fail), trivial⟩ ?_
      refine rl0 (gn rfl) rfl rfl (step_mv rfl rfl) trivial ?_
      refine rl_neq (gn rfl) rfl rfl rfl rfl rfl (fun h3 => ?_) (fun h3 => ?_)
      · skip
        exact absurd (ht _ (at_memS (j := j) (by omega))) (by assumption)
      · skip
        refine runsL_nil ?_
        refine runs_cond false (ev_mk rfl) (fun h_ => nomatch h_) (fun _ => ?_)
        refine runs_skip ?_
        refine runs_draw (by kernel_rfl) (by kernel_rfl) (by kernel_rfl) ?_
        refine dl0 (gn rfl) rfl rfl (step_mv rfl rfl) trivial ?_
        refine dl0 (gn rfl) rfl rfl (step_mul rfl (ev_mk rfl) (ev_mk rfl) (w64 (by omega))) trivial ?_
        first
          | (refine dl0 (gn rfl) rfl rfl (step_sl_arr (a := (56 * j)) (h := 224) (m := 224) (q' := (56 * j)) (n' := (224 - (56 * j))) (c' := (224 - (56 * j))) rfl (ev_mk rfl) Try.underlying22 F.sz5 (bndLo_nat (a := (56 * j)) rfl (by omega)) bndHi_none bndHi_none (fun h_ => by first | rfl | nomatch h_) (by omega) (by omega) (by omega) (.inl ⟨by omega, by omega⟩) (by first | rfl | omega) (by first | rfl | omega)) trivial ?_)
          | (refine dl0 (gn rfl) rfl rfl (step_slice_ro (a := (56 * j)) (h := 224) rfl (ev_mk rfl) Try.underlying22 F.sz5 (bndLo_nat (a := (56 * j)) rfl (by omega)) bndHi_none (by omega) (by omega) (by first | rfl | (simp; done) | (first | (simp; done) | (rw [List.length_map]; exact hl _ (at_memS (j := j) (by omega))) | (rw [List.length_map]; exact hl _ (at_memS (j := 0) (by omega))) | (rw [List.length_map, pgO_len hl j (by omega) (by omega)]))) (rfl)) trivial ?_)
        first
          | (refine dl0 (gn rfl) rfl rfl (step_sl_arr (a := 0) (h := 56) (m := 64) (q' := 0) (n' := 56) (c' := 64) rfl (ev_mk rfl) Try.underlying45 F.sz5 bndLo_none (bndHi_nat (a := 56) rfl (by omega)) bndHi_none (fun h_ => by first | rfl | nomatch h_) (by omega) (by omega) (by omega) (.inl ⟨by omega, by omega⟩) (by first | rfl | omega) (by first | rfl | omega)) trivial ?_)
          | (refine dl0 (gn rfl) rfl rfl (step_slice_ro (a := 0) (h := 56) rfl (ev_mk rfl) Try.underlying45 F.sz5 bndLo_none (bndHi_nat (a := 56) rfl (by omega)) (by omega) (by omega) (by first | rfl | (simp; done) | (first | (simp; done) | (rw [List.length_map]; exact hl _ (at_memS (j := j) (by omega))) | (rw [List.length_map]; exact hl _ (at_memS (j := 0) (by omega))) | (rw [List.length_map, pgO_len hl j (by omega) (by omega)]))) (rfl)) trivial ?_)
        refine' dl1 (gn rfl) rfl rfl (step_copy rfl rfl Try.underlying48 F.sz5 (ev_mk rfl) (ev_mk rfl) (gives_msl (ys := bytesV ((at' l (j : Int)).take 56)) ?hl2 ?hy2) ?hmn ?hl ?hcs) ⟨?hb, ⟨?hm2, trivial⟩⟩ (by omega) ?_
        case hb => repeat (first | exact upd_eq _ _ _ | refine (upd_ne _ _ _ _ (by omega)).trans ?_ | assumption | exact hd _ (by omega) | exact hd0 _ (by omega) | exact hd1 _ (by omega) | exact hd2 _ (by omega) | fail)
        case hmn => exact Nat.min_eq_left (by simp [bytesV]; omega)
        case hl => rw [List.length_map, pgO_len hl j (by omega) (by omega)]; omega
        case hcs => exact (congrArg (setSeg _ _) (congrArg List.flatten (List.take_of_length_le (by rw [bytesV, List.length_map, List.length_take]; omega)))).trans (pgO_set hl j (by omega) h4)
        case hm2 => repeat (first | exact upd_eq _ _ _ | refine (upd_ne _ _ _ _ (by omega)).trans ?_ | assumption | exact hd _ (by omega) | exact hd0 _ (by omega) | exact hd1 _ (by omega) | exact hd2 _ (by omega) | fail)
        case hl2 => rw [List.length_map, hl _ (at_memS (j := j) (by omega))]; omega
        case hy2 => exact rows_take (hl _ (at_memS (j := j) (by omega)))
        refine dlnil ?_ ?_
        · repeat' (first | exact trivial | exact .inr (ap0 _ _ _ _) | exact .inr (ap2 _ _ _ _) | exact .inr (ap3 _ _ _ _) | exact .inr ⟨by first | (simp; done) | (simp; omega), by first | (simp; done) | (simp; omega)⟩ | exact .inl (by kernel_rfl) | refine ⟨?_, ?_⟩ | fail)
        refine runs_region ?_
        refine rl0 (gn rfl) rfl rfl (step_add rfl (ev_mk rfl) (ev_mk rfl) (w64 (by omega))) trivial ?_
        refine rl0 (gn rfl) rfl rfl (step_mv rfl rfl) trivial ?_
        refine runsL_nil ?_
        refine ⟨_, _, ?_, sle ?_ (Nat.le_refl _), j + 1, _, _, rfl, rfl, by omega, (fun k hk => by repeat (first | exact hf0 k hk | exact hf0 k hk | exact hf1 k hk | exact hf2 k hk | refine (upd_ne _ _ _ _ (by first | assumption | omega)).trans ?_ | fail)), by repeat (first | exact upd_eq _ _ _ | assumption | refine (upd_ne _ _ _ _ (by omega)).trans ?_ | fail), by repeat (first | exact upd_eq _ _ _ | assumption | refine (upd_ne _ _ _ _ (by omega)).trans ?_ | fail), by omega, fun i hi => by (rcases Nat.lt_succ_iff_lt_or_eq.mp hi with h_ | h_); exact hF0_1 i h_; (subst h_; assumption)⟩
        · omega
        · (repeat' (first | exact trivial | refine ⟨⟨_, rfl, ?_⟩, ?_⟩ | fail)); (all_goals first | exact VLe.refl _ | (rw [Int.natCast_add]; exact VLe.refl _) | exact VLe.own_sl _ _ _ | exact VLe.fl_sl _ _ | exact VLe.nil_sl _)
    · skip
      refine runsL_nil ?_
      refine runs_seq ?_
      refine runs_cond false (ev_mk rfl) (fun h_ => nomatch h_) (fun _ => ?_)
      refine runs_exit ?_
      refine runs_seq ?_
      refine runs_region ?_
      first
        | (refine' rl0 (gn rfl) rfl rfl (step_load_all rfl rfl F.agg22 ?hl) ⟨?hb, trivial⟩ ?_; (case hb => repeat (first | exact upd_eq _ _ _ | refine (upd_ne _ _ _ _ (by omega)).trans ?_ | assumption | exact hd _ (by omega) | exact hd0 _ (by omega) | exact hd1 _ (by omega) | exact hd2 _ (by omega) | fail)); (case hl => first | rfl | (simp; done) | (first | (simp; done) | (rw [List.length_map]; exact hl _ (at_memS (j := j) (by omega))) | (rw [List.length_map]; exact hl _ (at_memS (j := 0) (by omega))) | (rw [List.length_map, pgO_len hl j (by omega) (by omega)]))))
        | (refine rl0 (gn rfl) rfl rfl (step_load_ro_all rfl rfl F.agg22 (by first | rfl | (simp; done) | (first | (simp; done) | (rw [List.length_map]; exact hl _ (at_memS (j := j) (by omega))) | (rw [List.length_map]; exact hl _ (at_memS (j := 0) (by omega))) | (rw [List.length_map, pgO_len hl j (by omega) (by omega)])))) trivial ?_)
        | (refine' rl0 (gn rfl) rfl rfl (step_load_agg rfl (ev_mk rfl) F.agg22 ?hc ?hl) ⟨?hb, trivial⟩ ?_; (case hb => repeat (first | exact upd_eq _ _ _ | refine (upd_ne _ _ _ _ (by omega)).trans ?_ | assumption | exact hd _ (by omega) | exact hd0 _ (by omega) | exact hd1 _ (by omega) | exact hd2 _ (by omega) | fail)); (case hc => rfl); (case hl => first | rfl | (simp; done)))
        | (refine rl0 (gn rfl) rfl rfl (step_load_ro_agg rfl (ev_mk rfl) F.agg22 rfl rfl) trivial ?_)
      refine rl0 (gn rfl) rfl rfl (step_mv rfl rfl) trivial ?_
      first
        | (refine' rls (gn rfl) rfl (step_storeA rfl rfl rfl rfl F.agg22 ?hm ?hl) ⟨?hb, trivial⟩ ?hk ?_; (case hb => repeat (first | exact upd_eq _ _ _ | refine (upd_ne _ _ _ _ (by omega)).trans ?_ | assumption | exact hd _ (by omega) | exact hd0 _ (by omega) | exact hd1 _ (by omega) | exact hd2 _ (by omega) | fail)); (case hm => first | rfl | (simp; done) | (first | (simp; done) | (rw [List.length_map]; exact hl _ (at_memS (j := j) (by omega))) | (rw [List.length_map]; exact hl _ (at_memS (j := 0) (by omega))) | (rw [List.length_map, pgO_len hl j (by omega) (by omega)]))); (case hl => first | rfl | (simp; done) | (first | (simp; done) | (rw [List.length_map]; exact hl _ (at_memS (j := j) (by omega))) | (rw [List.length_map]; exact hl _ (at_memS (j := 0) (by omega))) | (rw [List.length_map, pgO_len hl j (by omega) (by omega)]))); (case hk => omega))
        | (refine' rls (gn rfl) rfl (step_storeS rfl rfl rfl rfl F.agg22 ?hm ?hl ?hc) ⟨?hb, trivial⟩ ?hk ?_; (case hb => repeat (first | exact upd_eq _ _ _ | refine (upd_ne _ _ _ _ (by omega)).trans ?_ | assumption | exact hd _ (by omega) | exact hd0 _ (by omega) | exact hd1 _ (by omega) | exact hd2 _ (by omega) | fail)); (case hm => first | rfl | (simp; done) | (first | (simp; done) | (rw [List.length_map]; exact hl _ (at_memS (j := j) (by omega))) | (rw [List.length_map]; exact hl _ (at_memS (j := 0) (by omega))) | (rw [List.length_map, pgO_len hl j (by omega) (by omega)]))); (case hl => first | decide | (simp; done) | (first | (simp; done) | (rw [List.length_map]; exact hl _ (at_memS (j := j) (by omega))) | (rw [List.length_map]; exact hl _ (at_memS (j := 0) (by omega))) | (rw [List.length_map, pgO_len hl j (by omega) (by omega)]))); (case hc => rfl); (case hk => omega))
      refine rl0 (gn rfl) rfl rfl (step_as rfl rfl) trivial ?_
      refine rl0 (gn rfl) rfl rfl (step_as rfl rfl) trivial ?_
      refine runsL_nil ?_
      refine runs_ret ?_
      refine ⟨by first | exact .inr rfl | exact .inl rfl, fin_mk (resc rfl (by repeat (first | exact upd_eq _ _ _ | refine (upd_ne _ _ _ _ (by omega)).trans ?_ | assumption | exact hd _ (by omega) | exact hd0 _ (by omega) | exact hd1 _ (by omega) | exact hd2 _ (by omega) | fail)) F.agg22 (by first | rfl | (first | (simp; done) | (rw [List.length_map]; exact hl _ (at_memS (j := j) (by omega))) | (rw [List.length_map]; exact hl _ (at_memS (j := 0) (by omega))) | (rw [List.length_map, pgO_len hl j (by omega) (by omega)]))) (rest rfl (rest rfl res0))) ?_ ?_ ?_ ?_⟩
      · (obtain rfl : j = 4 := by omega); exact VLe.refl _
      · repeat (first | exact trivial | assumption | omega | exact bd_bs | exact bd_row | exact bd_secs | exact bd_bools | refine ⟨?_, ?_⟩ | fail)
      · intro k hk; exact ble (by first | exact rfl | (refine (upd_ne _ _ _ _ (by omega)).trans ?_; first | exact rfl | skip; repeat (first | exact rfl | refine (upd_ne _ _ _ _ (by omega)).trans ?_ | assumption | exact hf0 _ (by omega) | exact hf1 _ (by omega) | exact hf2 _ (by omega) | exact hf0 _ (by omega) (by first | assumption | omega) | exact hf1 _ (by omega) (by first | assumption | omega))) | exact hf0 _ (by omega) | exact hf1 _ (by omega) | exact hf2 _ (by omega) | exact hf0 _ (by omega) (by first | assumption | omega) | exact hf1 _ (by omega) (by first | assumption | omega))
      · intro p hp; cases hp
end Go.Proofs.Ytdcmcmgbnkolbaa
