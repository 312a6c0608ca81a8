/- Walks by the logic of values. -/
import Derived.Test.YtgfpgaaoigeopaaVmT
import Derived.Test.YtgfpgaaoigeopaaVmP
namespace Go.Proofs.Ytgfpgaaoigeopaa
open Go.Vm
set_option linter.unusedVariables false
set_option linter.unusedSimpArgs false
def iV (x : Int) : V := .sc (.int .i64 x)
def fc (g : Nat → Int) : List V := (List.range 81).map fun j => iV (g j)
def tB (g : Nat → Int) (m : Int) : List V := fc g ++ [iV m]
theorem fc_len (g : Nat → Int) : (fc g).length = 81 := by simp [fc]
theorem tB_len (g : Nat → Int) (m : Int) : (tB g m).length = 82 := by simp [tB, fc_len]
theorem tB_get {g : Nat → Int} {m : Int} {p q : Nat} (h : p = q) (hq : q < 81) : (tB g m)[p]? = some (iV (g q)) := by
  subst h; unfold tB; rw [List.getElem?_append_left (by rw [fc_len]; exact hq)]; unfold fc; rw [List.getElem?_map, List.getElem?_range hq]; rfl
theorem tB_n {g : Nat → Int} {m : Int} {p : Nat} (h : p = 81) : (tB g m)[p]? = some (iV m) := by
  subst h; unfold tB; rw [List.getElem?_append_right (by rw [fc_len]; exact Nat.le_refl _), fc_len]; rfl
theorem tB_set_n {g : Nat → Int} {m v : Int} {p : Nat} (h : p = 81) : (tB g m).set p (iV v) = tB g v := by
  subst h; unfold tB; rw [List.set_append_right _ _ (by rw [fc_len]; exact Nat.le_refl _), fc_len]; rfl
def bump (g : Nat → Int) (q : Nat) (n : Int) : Nat → Int := fun j => if j = q then g j + n else g j
theorem fc_ext {g h : Nat → Int} (e : ∀ j, j < 81 → g j = h j) : fc g = fc h := by
  unfold fc; apply List.map_congr_left; intro j hj; rw [e j (List.mem_range.1 hj)]
theorem tB_set {g : Nat → Int} {m v n : Int} {p q : Nat} (h : p = q) (hq : q < 81) (hv : v = g q + n) : (tB g m).set p (iV v) = tB (bump g q n) m := by
  subst h hv; unfold tB; rw [List.set_append_left _ _ (by rw [fc_len]; exact hq)]
  congr 1
  apply List.ext_getElem?
  intro j
  unfold fc
  by_cases hj : p = j
  · subst hj; rw [List.getElem?_set_self (by simpa using hq), List.getElem?_map, List.getElem?_range hq]; simp [bump]
  · rw [List.getElem?_set_ne hj, List.getElem?_map, List.getElem?_map]
    by_cases hl : j < 81
    · rw [List.getElem?_range hl]; simp [bump, Ne.symm hj]
    · rw [List.getElem?_eq_none (by simp; omega)]; rfl
def low : Nat → Nat | 1 => 1 | 2 => 2 | 3 => 1 | 4 => 4 | 5 => 1 | 6 => 2 | 7 => 1 | 8 => 8 | _ => 1
theorem low_le2 : ∀ i : Nat, 1 ≤ low i ∧ low i ≤ 8 := by intro i; unfold low; split <;> omega
def ups : Nat → List Nat | 1 => [1, 2, 4, 8] | 2 => [2, 4, 8] | 3 => [3, 4, 8] | 4 => [4, 8] | 5 => [5, 6, 8] | 6 => [6, 8] | 7 => [7, 8] | 8 => [8] | _ => []
def dx : Nat → Nat | 3 => 2 | 5 => 4 | 6 => 4 | 7 => 6 | _ => 0
def dn : Nat → List Nat | 1 => [1] | 2 => [2] | 3 => [3, 2] | 4 => [4] | 5 => [5, 4] | 6 => [6, 4] | 7 => [7, 6, 4] | 8 => [8] | _ => []
theorem eight {i : Nat} (h1 : 1 ≤ i) (h8 : i ≤ 8) : i = 1 ∨ i = 2 ∨ i = 3 ∨ i = 4 ∨ i = 5 ∨ i = 6 ∨ i = 7 ∨ i = 8 := by omega
theorem ups_step {i : Nat} (h1 : 1 ≤ i) (h8 : i ≤ 8) : ups i = i :: ups (i + low i) := by rcases eight h1 h8 with rfl | rfl | rfl | rfl | rfl | rfl | rfl | rfl <;> rfl
theorem low_le {i : Nat} (h1 : 1 ≤ i) (h8 : i ≤ 8) : 1 ≤ low i ∧ i + low i ≤ 16 := by rcases eight h1 h8 with rfl | rfl | rfl | rfl | rfl | rfl | rfl | rfl <;> decide
theorem ups_end {i : Nat} (h : ¬ (i : Int) ≤ 8) : ups i = [] := by
  have : 9 ≤ i := by omega
  match i, this with
  | i + 9, _ => rfl
theorem dn_step {i : Nat} (h1 : 1 ≤ i) (h8 : i ≤ 8) : dn i = i :: dn (dx i) := by rcases eight h1 h8 with rfl | rfl | rfl | rfl | rfl | rfl | rfl | rfl <;> rfl
theorem dx_le {i : Nat} (h1 : 1 ≤ i) (h8 : i ≤ 8) : dx i + 1 ≤ i := by rcases eight h1 h8 with rfl | rfl | rfl | rfl | rfl | rfl | rfl | rfl <;> decide
theorem low_and {i : Nat} (h1 : 1 ≤ i) (h8 : i ≤ 8) : bits .and .i64 (i : Int) (-(i : Int)) = (low i : Int) := by rcases eight h1 h8 with rfl | rfl | rfl | rfl | rfl | rfl | rfl | rfl <;> decide
theorem dx_and {i : Nat} (h1 : 1 ≤ i) (h8 : i ≤ 8) : bits .and .i64 (i : Int) ((i : Int) - 1) = (dx i : Int) := by rcases eight h1 h8 with rfl | rfl | rfl | rfl | rfl | rfl | rfl | rfl <;> decide
def addI (g : Nat → Int) (i : Nat) (n : Int) (q : Nat) : Nat → Int := (ups q).foldl (fun g q => bump g (i * 9 + q) n) g
def addO (g : Nat → Int) (n : Int) (i b : Nat) : Nat → Int := (ups i).foldl (fun g i => addI g i n b) g
theorem addI_step {g : Nat → Int} {i q : Nat} {n : Int} (h1 : 1 ≤ q) (h8 : q ≤ 8) : addI (bump g (i * 9 + q) n) i n (q + low q) = addI g i n q := by unfold addI; rw [ups_step h1 h8]; rfl
theorem addO_step {g : Nat → Int} {i b : Nat} {n : Int} (h1 : 1 ≤ i) (h8 : i ≤ 8) : addO (addI g i n b) n (i + low i) b = addO g n i b := by unfold addO; rw [ups_step h1 h8]; rfl
theorem addI_end {g : Nat → Int} {i q : Nat} {n : Int} (h : ¬ (q : Int) ≤ 8) : addI g i n q = g := by unfold addI; rw [ups_end h]; rfl
theorem addO_end {g : Nat → Int} {i b : Nat} {n : Int} (h : ¬ (i : Int) ≤ 8) : addO g n i b = g := by unfold addO; rw [ups_end h]; rfl
def bdG (g : Nat → Int) (b : Int) : Prop := ∀ j, -b ≤ g j ∧ g j ≤ b
theorem bump_bd {g : Nat → Int} {b c n : Int} {q : Nat} (h : bdG g b) (hn : -1 ≤ n ∧ n ≤ 1) (hc : b + 1 ≤ c) : bdG (bump g q n) c := fun j => by
  have := h j; unfold bump; split <;> omega
theorem bdG_mono {g : Nat → Int} {b c : Int} (h : bdG g b) (hc : b ≤ c) : bdG g c := fun j => by have := h j; omega
def inS (g : Nat → Int) (i q : Nat) : Int := ((dn q).map fun q => g (i * 9 + q)).sum
def outS (g : Nat → Int) (i r : Nat) : Int := ((dn i).map fun i => inS g i r).sum
theorem inS_step {g : Nat → Int} {i q : Nat} (h1 : 1 ≤ q) (h8 : q ≤ 8) : inS g i q = g (i * 9 + q) + inS g i (dx q) := by unfold inS; rw [dn_step h1 h8]; simp
theorem outS_step {g : Nat → Int} {i r : Nat} (h1 : 1 ≤ i) (h8 : i ≤ 8) : outS g i r = inS g i r + outS g (dx i) r := by unfold outS; rw [dn_step h1 h8]; simp
def tl (x y : Int) : Nat := (y / 536870912 * 8 + x / 536870912).toNat
theorem tl_eq {x y : Int} (hx : U32 x) (hy : U32 y) : (tl x y : Int) = y / 536870912 * 8 + x / 536870912 ∧ tl x y < 64 := by
  unfold U32 at hx hy; unfold tl; omega
theorem shr29 {y : Int} (h : 0 ≤ y) : y.fdiv (2 ^ (min (29 : Int).toNat IntKind.u32.bits)) = y / 536870912 := by
  rw [show ((2 : Int) ^ (min (29 : Int).toNat IntKind.u32.bits)) = 536870912 from rfl]; exact Int.fdiv_eq_ediv_of_nonneg _ (by omega)
set_option maxRecDepth 100000 in
set_option maxHeartbeats 4000000 in
theorem tile_c (x y : Int) (hx : U32 x) (hy : U32 y) : Does Try.prog 17 [.sc (.int .u32 x), .sc (.int .u32 y)] [] [] (.sc (.int .i64 (tl x y))) := by
  refine does_mkg 40 Try.func17 rfl rfl rfl (fun n B bx hd hpre hup hvs hbx hgx => ?_)
  have htl := tl_eq hx hy
  unfold U32 at hx hy
  refine runs_seq ?_
  refine runs_region ?_
  refine rl0 (gn rfl) rfl rfl (step_as rfl rfl) trivial ?_
  refine runsL_nil ?_
  refine runs_seq ?_
  refine runs_region ?_
  refine rl0 (gn rfl) rfl rfl (step_mv rfl rfl) trivial ?_
  refine rl0 (gn rfl) rfl rfl (step_shr (r := y / 536870912) rfl (ev_mk rfl) (ev_mk rfl) (by omega) (shr29 (by omega))) trivial ?_
  refine rl0 (gn rfl) rfl rfl (step_conv_id rfl rfl Try.underlying23 Try.underlying3 (w64 (by omega))) trivial ?_
  refine rl0 (gn rfl) rfl rfl (step_mul rfl (ev_mk rfl) (ev_mk rfl) (w64 (by omega))) trivial ?_
  refine rl0 (gn rfl) rfl rfl (step_mv rfl rfl) trivial ?_
  refine rl0 (gn rfl) rfl rfl (step_shr (r := x / 536870912) rfl (ev_mk rfl) (ev_mk rfl) (by omega) (shr29 (by omega))) trivial ?_
  refine rl0 (gn rfl) rfl rfl (step_conv_id rfl rfl Try.underlying23 Try.underlying3 (w64 (by omega))) trivial ?_
  refine rl0 (gn rfl) rfl rfl (step_add rfl (ev_mk rfl) (ev_mk rfl) (w64 (by omega))) trivial ?_
  refine rl0 (gn rfl) rfl rfl (step_as rfl rfl) trivial ?_
  refine runsL_nil ?_
  refine runs_ret ?_
  refine ⟨by first | exact .inr rfl | exact .inl rfl, fin_mkg (rest rfl res0) ?_ ?_ ?_ ?_ ?_⟩
  · (repeat' (first | exact VLe.refl _ | exact VLe.own_sl _ _ _ | exact VLe.fl_sl _ _ | exact VLe.nil_sl _ | exact VLe.nil_fl _ | exact VLes.refl _ | exact .nil | refine VLe.tup ?_ | refine VLe.agg ?_ | refine .cons ?_ ?_ | (rw [Int.natCast_add]; exact VLe.refl _) | exact vle_int (by omega) | exact vle_bool (by first | rfl | assumption | (simp_all; done)) | fail))
  · repeat (first | exact trivial | assumption | omega | exact bd_bs | exact bd_row | exact bd_secs | exact bd_bools | (refine bdR_map (fun _ => ?_)) | (refine bdL_map (fun _ => ?_)) | refine ⟨?_, ?_⟩ | fail)
  · intro k_ hk_; exact ble (by first | exact rfl | (refine (upd_ne _ _ _ _ (by omega)).trans ?_; first | exact rfl | skip; repeat (first | exact rfl | refine (upd_ne _ _ _ _ (by omega)).trans ?_ | assumption | exact hf0 _ (by omega) | exact hf1 _ (by omega) | exact hf2 _ (by omega) | exact hf3 _ (by omega) | exact hf0 _ (by omega) (by first | assumption | omega) | exact hf1 _ (by omega) (by first | assumption | omega) | exact hf2 _ (by omega) (by first | assumption | omega) | exact hf3 _ (by omega) (by first | assumption | omega) | exact hf0 _ (by omega) (by first | assumption | omega) (by first | assumption | omega) | exact hf1 _ (by omega) (by first | assumption | omega) (by first | assumption | omega) | exact hf2 _ (by omega) (by first | assumption | omega) (by first | assumption | omega) | exact hf3 _ (by omega) (by first | assumption | omega) (by first | assumption | omega))) | exact hf0 _ (by omega) | exact hf1 _ (by omega) | exact hf2 _ (by omega) | exact hf3 _ (by omega) | exact hf0 _ (by omega) (by first | assumption | omega) | exact hf1 _ (by omega) (by first | assumption | omega) | exact hf2 _ (by omega) (by first | assumption | omega) | exact hf3 _ (by omega) (by first | assumption | omega) | exact hf0 _ (by omega) (by first | assumption | omega) (by first | assumption | omega) | exact hf1 _ (by omega) (by first | assumption | omega) (by first | assumption | omega) | exact hf2 _ (by omega) (by first | assumption | omega) (by first | assumption | omega) | exact hf3 _ (by omega) (by first | assumption | omega) (by first | assumption | omega))
  · intro p hp; cases hp
  · repeat (first | exact trivial | assumption | omega | exact bd_bs | exact bd_row | exact bd_secs | exact bd_bools | (refine bdR_map (fun _ => ?_)) | (refine bdL_map (fun _ => ?_)) | refine ⟨?_, ?_⟩ | fail)
set_option maxRecDepth 100000 in
set_option maxHeartbeats 4000000 in
theorem add_c (k : Nat) (g : Nat → Int) (m x y n_ : Int) (hx : U32 x) (hy : U32 y) (hn : -1 ≤ n_ ∧ n_ ≤ 1) (hg : bdG g 100000) (hm : -100000 ≤ m ∧ m ≤ 100000) : Does Try.prog 8 [.ref k 0, .sc (.int .u32 x), .sc (.int .u32 y), .sc (.int .i64 n_)] [(k, .cells (tB g m))] [(k, .cells (tB (addO g n_ (tl x y % 8 + 1) (tl x y / 8 + 1)) (m + n_)))] (.tup []) := by
  refine does_mkg 40 Try.func8 rfl rfl rfl (fun n B bx hd hpre hup hvs hbx hgx => ?_)
  have hp0 := hpre.1
  have hk0 := lt_cells hd hp0
  have hu0 := hup.1
  have htl := (tl_eq hx hy).2
  refine runs_seq ?_
  refine runs_region ?_
  refine rl0 (gn rfl) rfl rfl (step_mv rfl rfl) trivial ?_
  refine rl0 (gn rfl) rfl rfl (step_mv rfl rfl) trivial ?_
  refine rl0 (gn rfl) rfl rfl (step_callc rfl Try.func17 rfl rfl rfl (tile_c x y hx hy) (by repeat (first | exact .nil | refine .cons ?_ ?_ | exact VLe.refl _ | exact VLe.own_sl _ _ _ | exact VLe.fl_sl _ _ | exact VLe.nil_sl _ | exact VLe.nil_fl _ | refine VLe.agg ?_))) trivial ?_
  refine rl0 (gn rfl) rfl rfl (step_as rfl rfl) trivial ?_
  refine runsL_nil ?_
  refine runs_seq ?_
  refine runs_region ?_
  refine rl0 (gn rfl) rfl rfl (step_mv rfl rfl) trivial ?_
  refine rl0 (gn rfl) rfl rfl (step_nilCheck rfl (ev_mk rfl) (.inl ⟨_, _, rfl⟩)) trivial ?_
  refine rl0 (gn rfl) rfl rfl (step_fieldAddr (off := 81) rfl (ev_mk rfl) Try.underlying48 rfl F.sz3 rfl) trivial ?_
  refine' rl0 (gn rfl) rfl rfl (step_load_one (v := .sc (.int .i64 m)) rfl (ev_mk rfl) F.one3 ?hv) ⟨?hb, trivial⟩ ?_
  case hb => repeat (first | exact upd_eq _ _ _ | refine (upd_ne _ _ _ _ (by omega)).trans ?_ | assumption | exact hd _ (by omega) | exact hd0 _ (by omega) | exact hd1 _ (by omega) | exact hd2 _ (by omega) | exact hd3 _ (by omega) | fail)
  case hv => exact tB_n rfl
  refine rl0 (gn rfl) rfl rfl (step_mv rfl rfl) trivial ?_
  refine rl0 (gn rfl) rfl rfl (step_add rfl (ev_mk rfl) (ev_mk rfl) (w64 (by omega))) trivial ?_
  refine rl0 (gn rfl) rfl rfl (step_nilCheck rfl (ev_mk rfl) (.inl ⟨_, _, rfl⟩)) trivial ?_
  refine rl0 (gn rfl) rfl rfl (step_fieldAddr (off := 81) rfl (ev_mk rfl) Try.underlying48 rfl F.sz3 rfl) trivial ?_
  refine' rls (gn rfl) rfl (step_store1 (cs' := tB g (m + n_)) rfl rfl rfl rfl F.one3 rfl rfl ?hl ?hc) ⟨?hb, trivial⟩ ?hk ?_
  case hb => repeat (first | exact upd_eq _ _ _ | refine (upd_ne _ _ _ _ (by omega)).trans ?_ | assumption | exact hd _ (by omega) | exact hd0 _ (by omega) | exact hd1 _ (by omega) | exact hd2 _ (by omega) | exact hd3 _ (by omega) | fail)
  case hl => rw [tB_len]; omega
  case hc => exact tB_set_n rfl
  case hk => omega
  refine runsL_nil ?_
  refine runs_seq ?_
  refine runs_region ?_
  refine rl0 (gn rfl) rfl rfl (step_mv rfl rfl) trivial ?_
  refine rl0 (gn rfl) rfl rfl (step_rem rfl (ev_mk rfl) (ev_mk rfl) (by omega) (by omega)) trivial ?_
  refine rl0 (gn rfl) rfl rfl (step_add rfl (ev_mk rfl) (ev_mk rfl) (w64 (by omega))) trivial ?_
  refine rl0 (gn rfl) rfl rfl (step_as rfl rfl) trivial ?_
  refine runsL_nil ?_
  refine runs_block ?_
  refine runs_loop (fun (ri_ : Nat) (st_ : Go.Vm.S) => ∃ (i : Nat) (f : Nat → Int) (m0 : Nat) (b0 : Nat → Box), (st_ = ⟨mk [(0, .ref k 0), (3, .sc (.int .i64 n_)), (8, .sc (.int .i64 (tl x y))), (9, .sc (.int .i64 i))], m0, b0⟩) ∧ (ri_ = 17 - i) ∧ (n + 0 ≤ m0) ∧ (∀ k_, k_ < n → k_ ≠ k → b0 k_ = bx k_) ∧ (b0 k = .cells (tB f (m + n_))) ∧ (1 ≤ i) ∧ (i ≤ 16) ∧ (addO f n_ i (tl x y / 8 + 1) = addO g n_ (tl x y % 8 + 1) (tl x y / 8 + 1)) ∧ (bdG f (100000 + 16 * i))) (17 - (tl x y % 8 + 1)) ⟨_, sle ?_ (Nat.le_refl _), (tl x y % 8 + 1), g, _, _, rfl, rfl, ?_⟩ ?_
  · (repeat' (first | exact trivial | refine ⟨⟨_, rfl, ?_⟩, ?_⟩ | fail)); all_goals (repeat' (first | exact VLe.refl _ | exact VLe.own_sl _ _ _ | exact VLe.fl_sl _ _ | exact VLe.nil_sl _ | exact VLe.nil_fl _ | exact VLes.refl _ | exact .nil | refine VLe.tup ?_ | refine VLe.agg ?_ | refine .cons ?_ ?_ | (rw [Int.natCast_add]; exact VLe.refl _) | exact vle_int (by omega) | exact vle_bool (by first | rfl | assumption | (simp_all; done)) | fail))
  · exact ⟨by omega, (fun k_ hk_ e0_ => by first | exact rfl | (refine (upd_ne _ _ _ _ (by omega)).trans ?_; first | exact rfl | skip; repeat (first | exact rfl | refine (upd_ne _ _ _ _ (by omega)).trans ?_ | assumption | exact hf0 _ (by omega) | exact hf1 _ (by omega) | exact hf2 _ (by omega) | exact hf3 _ (by omega) | exact hf0 _ (by omega) (by first | assumption | omega) | exact hf1 _ (by omega) (by first | assumption | omega) | exact hf2 _ (by omega) (by first | assumption | omega) | exact hf3 _ (by omega) (by first | assumption | omega) | exact hf0 _ (by omega) (by first | assumption | omega) (by first | assumption | omega) | exact hf1 _ (by omega) (by first | assumption | omega) (by first | assumption | omega) | exact hf2 _ (by omega) (by first | assumption | omega) (by first | assumption | omega) | exact hf3 _ (by omega) (by first | assumption | omega) (by first | assumption | omega))) | exact hf0 _ (by omega) | exact hf1 _ (by omega) | exact hf2 _ (by omega) | exact hf3 _ (by omega) | exact hf0 _ (by omega) (by first | assumption | omega) | exact hf1 _ (by omega) (by first | assumption | omega) | exact hf2 _ (by omega) (by first | assumption | omega) | exact hf3 _ (by omega) (by first | assumption | omega) | exact hf0 _ (by omega) (by first | assumption | omega) (by first | assumption | omega) | exact hf1 _ (by omega) (by first | assumption | omega) (by first | assumption | omega) | exact hf2 _ (by omega) (by first | assumption | omega) (by first | assumption | omega) | exact hf3 _ (by omega) (by first | assumption | omega) (by first | assumption | omega)), by first | ((repeat (first | exact upd_eq _ _ _ | assumption | refine (upd_ne _ _ _ _ (by omega)).trans ?_ | fail)); done) | exact tl_eq (by repeat (first | exact upd_eq _ _ _ | assumption | refine (upd_ne _ _ _ _ (by omega)).trans ?_ | fail)) (by first | rfl | (simp [bytesV, beB_len]; done) | (simp [bytesV, beB_len]; omega) | omega), by omega, by omega, rfl, bdG_mono hg (by omega)⟩
  · rintro _ _ ⟨i, f, m0, b0, rfl, rfl, hm0, hf0, hB0_0, hF0_0, hF0_1, hF0_2, hF0_3⟩
    refine runs_know (fun hd0 => ?_)
    refine runs_bump 20 ?_
    simp only at hd0
    have hlw_ := low_le2 i
    refine runs_seq ?_
    refine runs_seq ?_
    refine runs_region ?_
    refine rl0 (gn rfl) rfl rfl (step_mv rfl rfl) trivial ?_
    refine rl_leq (gn rfl) rfl rfl rfl rfl rfl (fun h1 => ?_) (fun h1 => ?_)
    · skip
      refine runsL_nil ?_
      refine runs_cond true (ev_mk rfl) (fun _ => ?_) (fun h_ => nomatch h_)
      refine runs_skip ?_
      refine runs_seq ?_
      refine runs_block ?_
      refine runs_seq ?_
      refine runs_region ?_
      refine rl0 (gn rfl) rfl rfl (step_mv rfl rfl) trivial ?_
      refine rl0 (gn rfl) rfl rfl (step_quo rfl (ev_mk rfl) (ev_mk rfl) (by omega) (by omega) (w64 (by omega))) trivial ?_
      refine rl0 (gn rfl) rfl rfl (step_add rfl (ev_mk rfl) (ev_mk rfl) (w64 (by omega))) trivial ?_
      refine rl0 (gn rfl) rfl rfl (step_as rfl rfl) trivial ?_
      refine runsL_nil ?_
      refine runs_block ?_
      refine runs_loop (fun (ri_ : Nat) (st_ : Go.Vm.S) => ∃ (q : Nat) (u : Nat → Int) (m1 : Nat) (b1 : Nat → Box), (st_ = ⟨mk [(0, .ref k 0), (3, .sc (.int .i64 n_)), (8, .sc (.int .i64 (tl x y))), (9, .sc (.int .i64 i)), (10, .sc (.int .i64 q)), (25, .sc (.int .i64 i)), (26, .sc (.bool true)), (33, .sc (.int .i64 (tl x y))), (34, .sc (.int .i64 ((tl x y) / 8))), (35, .sc (.int .i64 (((tl x y) / 8) + 1)))], m1, b1⟩) ∧ (ri_ = 17 - q) ∧ (m0 + 0 ≤ m1) ∧ (∀ k_, k_ < n → k_ ≠ k → b1 k_ = bx k_) ∧ (b1 k = .cells (tB u (m + n_))) ∧ (1 ≤ q) ∧ (q ≤ 16) ∧ (addI u i n_ q = addI f i n_ (tl x y / 8 + 1)) ∧ (bdG u (100000 + 16 * i + q))) (17 - (tl x y / 8 + 1)) ⟨_, sle ?_ (Nat.le_refl _), (tl x y / 8 + 1), f, _, _, rfl, rfl, ?_⟩ ?_
      · (repeat' (first | exact trivial | refine ⟨⟨_, rfl, ?_⟩, ?_⟩ | fail)); all_goals (repeat' (first | exact VLe.refl _ | exact VLe.own_sl _ _ _ | exact VLe.fl_sl _ _ | exact VLe.nil_sl _ | exact VLe.nil_fl _ | exact VLes.refl _ | exact .nil | refine VLe.tup ?_ | refine VLe.agg ?_ | refine .cons ?_ ?_ | (rw [Int.natCast_add]; exact VLe.refl _) | exact vle_int (by omega) | exact vle_bool (by first | rfl | assumption | (simp_all; done)) | fail))
      · exact ⟨by omega, (fun k_ hk_ e0_ => by first | exact rfl | (refine (upd_ne _ _ _ _ (by omega)).trans ?_; first | exact rfl | skip; repeat (first | exact rfl | refine (upd_ne _ _ _ _ (by omega)).trans ?_ | assumption | exact hf0 _ (by omega) | exact hf1 _ (by omega) | exact hf2 _ (by omega) | exact hf3 _ (by omega) | exact hf0 _ (by omega) (by first | assumption | omega) | exact hf1 _ (by omega) (by first | assumption | omega) | exact hf2 _ (by omega) (by first | assumption | omega) | exact hf3 _ (by omega) (by first | assumption | omega) | exact hf0 _ (by omega) (by first | assumption | omega) (by first | assumption | omega) | exact hf1 _ (by omega) (by first | assumption | omega) (by first | assumption | omega) | exact hf2 _ (by omega) (by first | assumption | omega) (by first | assumption | omega) | exact hf3 _ (by omega) (by first | assumption | omega) (by first | assumption | omega))) | exact hf0 _ (by omega) | exact hf1 _ (by omega) | exact hf2 _ (by omega) | exact hf3 _ (by omega) | exact hf0 _ (by omega) (by first | assumption | omega) | exact hf1 _ (by omega) (by first | assumption | omega) | exact hf2 _ (by omega) (by first | assumption | omega) | exact hf3 _ (by omega) (by first | assumption | omega) | exact hf0 _ (by omega) (by first | assumption | omega) (by first | assumption | omega) | exact hf1 _ (by omega) (by first | assumption | omega) (by first | assumption | omega) | exact hf2 _ (by omega) (by first | assumption | omega) (by first | assumption | omega) | exact hf3 _ (by omega) (by first | assumption | omega) (by first | assumption | omega)), by first | ((repeat (first | exact upd_eq _ _ _ | assumption | refine (upd_ne _ _ _ _ (by omega)).trans ?_ | fail)); done) | exact tl_eq (by repeat (first | exact upd_eq _ _ _ | assumption | refine (upd_ne _ _ _ _ (by omega)).trans ?_ | fail)) (by first | rfl | (simp [bytesV, beB_len]; done) | (simp [bytesV, beB_len]; omega) | omega), by omega, by omega, rfl, bdG_mono hF0_3 (by omega)⟩
      · rintro _ _ ⟨q, u, m1, b1, rfl, rfl, hm1, hf1, hB1_0, hF1_0, hF1_1, hF1_2, hF1_3⟩
        refine runs_know (fun hd1 => ?_)
        refine runs_bump 20 ?_
        simp only at hd1
        have hlq_ := low_le2 q
        refine runs_seq ?_
        refine runs_seq ?_
        refine runs_region ?_
        refine rl0 (gn rfl) rfl rfl (step_mv rfl rfl) trivial ?_
        refine rl_leq (gn rfl) rfl rfl rfl rfl rfl (fun h2 => ?_) (fun h2 => ?_)
        · skip
          refine runsL_nil ?_
          refine runs_cond true (ev_mk rfl) (fun _ => ?_) (fun h_ => nomatch h_)
          refine runs_skip ?_
          refine runs_seq ?_
          refine runs_block ?_
          refine runs_draw (by kernel_rfl) (by kernel_rfl) (by kernel_rfl) ?_
          refine dl0 (gn rfl) rfl rfl (step_mv rfl rfl) trivial ?_
          refine dl0 (gn rfl) rfl rfl (step_mv rfl rfl) trivial ?_
          refine dl0 (gn rfl) rfl rfl (step_mv rfl rfl) trivial ?_
          refine dl0 (gn rfl) rfl rfl (step_nilCheck rfl (ev_mk rfl) (.inl ⟨_, _, rfl⟩)) trivial ?_
          refine dl0 (gn rfl) rfl rfl (step_fieldAddr (off := 0) rfl (ev_mk rfl) Try.underlying48 rfl F.sz46 rfl) trivial ?_
          refine dl0 (gn rfl) rfl rfl (step_index_arr rfl (ev_mk rfl) (ev_mk rfl) Try.underlying46 F.sz45 (by omega) (by omega)) trivial ?_
          refine dl0 (gn rfl) rfl rfl (step_index_arr rfl (ev_mk rfl) (ev_mk rfl) Try.underlying45 F.sz3 (by omega) (by omega)) trivial ?_
          refine' dl0 (gn rfl) rfl rfl (step_load_one (v := .sc (.int .i64 (u (i * 9 + q)))) rfl (ev_mk rfl) F.one3 ?hv) ⟨?hb, trivial⟩ ?_
          case hb => repeat (first | exact upd_eq _ _ _ | refine (upd_ne _ _ _ _ (by omega)).trans ?_ | assumption | exact hd _ (by omega) | exact hd0 _ (by omega) | exact hd1 _ (by omega) | exact hd2 _ (by omega) | exact hd3 _ (by omega) | fail)
          case hv => exact tB_get (by omega) (by omega)
          refine dl0 (gn rfl) rfl rfl (step_mv rfl rfl) trivial ?_
          refine dl0 (gn rfl) rfl rfl (step_add rfl (ev_mk rfl) (ev_mk rfl) (w64 (by have hb_ := hF1_3 (i * 9 + q); omega))) trivial ?_
          refine dl0 (gn rfl) rfl rfl (step_nilCheck rfl (ev_mk rfl) (.inl ⟨_, _, rfl⟩)) trivial ?_
          refine dl0 (gn rfl) rfl rfl (step_fieldAddr (off := 0) rfl (ev_mk rfl) Try.underlying48 rfl F.sz46 rfl) trivial ?_
          refine dl0 (gn rfl) rfl rfl (step_index_arr rfl (ev_mk rfl) (ev_mk rfl) Try.underlying46 F.sz45 (by omega) (by omega)) trivial ?_
          refine dl0 (gn rfl) rfl rfl (step_index_arr rfl (ev_mk rfl) (ev_mk rfl) Try.underlying45 F.sz3 (by omega) (by omega)) trivial ?_
          refine' dls (gn rfl) rfl (step_store1 (cs' := tB (bump u (i * 9 + q) n_) (m + n_)) rfl rfl rfl rfl F.one3 rfl rfl ?hl ?hc) ⟨?hb, trivial⟩ ?hk ?_
          case hb => repeat (first | exact upd_eq _ _ _ | refine (upd_ne _ _ _ _ (by omega)).trans ?_ | assumption | exact hd _ (by omega) | exact hd0 _ (by omega) | exact hd1 _ (by omega) | exact hd2 _ (by omega) | exact hd3 _ (by omega) | fail)
          case hl => rw [tB_len]; omega
          case hc => exact tB_set (by omega) (by omega) rfl
          case hk => omega
          refine dlnil ?_ ?_
          · repeat' (first | exact trivial | exact .inr (ap0 _ _ _ _) | exact .inr (ap2 _ _ _ _) | exact .inr (ap3 _ _ _ _) | exact .inr ⟨by first | (simp; done) | (simp; omega), by first | (simp; done) | (simp; omega)⟩ | exact .inl (by kernel_rfl) | refine ⟨?_, ?_⟩ | fail)
          refine runs_region ?_
          refine rl0 (gn rfl) rfl rfl (step_mv rfl rfl) trivial ?_
          refine rl0 (gn rfl) rfl rfl (step_mv rfl rfl) trivial ?_
          refine rl0 (gn rfl) rfl rfl (step_mv rfl rfl) trivial ?_
          refine rl0 (gn rfl) rfl rfl (step_neg (r := (-(q : Int))) rfl (ev_mk rfl) (by rw [show (0 : Int) - (q : Int) = -(q : Int) by omega]; exact w64 (by omega))) trivial ?_
          refine rl0 (gn rfl) rfl rfl (step_bits (r := (low q : Int)) rfl (ev_mk rfl) (ev_mk rfl) (.inl rfl) (low_and (by omega) (by omega))) trivial ?_
          refine rl0 (gn rfl) rfl rfl (step_add rfl (ev_mk rfl) (ev_mk rfl) (w64 (by omega))) trivial ?_
          refine rl0 (gn rfl) rfl rfl (step_as rfl rfl) trivial ?_
          refine runsL_nil ?_
          refine ⟨_, _, ?_, sle ?_ (Nat.le_refl _), (q + low q), (bump u (i * 9 + q) n_), _, _, rfl, rfl, by omega, (fun k_ hk_ e0_ => by repeat (first | exact hf1 k_ hk_ e0_ | exact hf0 k_ hk_ | exact hf2 k_ hk_ | exact hf3 k_ hk_ | exact hf0 k_ hk_ e0_ | exact hf2 k_ hk_ e0_ | exact hf3 k_ hk_ e0_ | refine (upd_ne _ _ _ _ (by first | assumption | omega)).trans ?_ | fail)), by first | ((repeat (first | exact upd_eq _ _ _ | assumption | refine (upd_ne _ _ _ _ (by omega)).trans ?_ | fail)); done) | exact tl_eq (by repeat (first | exact upd_eq _ _ _ | assumption | refine (upd_ne _ _ _ _ (by omega)).trans ?_ | fail)) (by first | rfl | (simp [bytesV, beB_len]; done) | (simp [bytesV, beB_len]; omega) | omega), by omega, by omega, by rw [← hF1_2, addI_step (by omega) (by omega)], bump_bd hF1_3 hn (by omega)⟩
          · omega
          · (repeat' (first | exact trivial | refine ⟨⟨_, rfl, ?_⟩, ?_⟩ | fail)); all_goals (repeat' (first | exact VLe.refl _ | exact VLe.own_sl _ _ _ | exact VLe.fl_sl _ _ | exact VLe.nil_sl _ | exact VLe.nil_fl _ | exact VLes.refl _ | exact .nil | refine VLe.tup ?_ | refine VLe.agg ?_ | refine .cons ?_ ?_ | (rw [Int.natCast_add]; exact VLe.refl _) | exact vle_int (by omega) | exact vle_bool (by first | rfl | assumption | (simp_all; done)) | fail))
        · skip
          refine runsL_nil ?_
          refine runs_cond false (ev_mk rfl) (fun h_ => nomatch h_) (fun _ => ?_)
          refine runs_exit ?_
          refine runs_region ?_
          refine rl0 (gn rfl) rfl rfl (step_mv rfl rfl) trivial ?_
          refine rl0 (gn rfl) rfl rfl (step_mv rfl rfl) trivial ?_
          refine rl0 (gn rfl) rfl rfl (step_mv rfl rfl) trivial ?_
          refine rl0 (gn rfl) rfl rfl (step_neg (r := (-(i : Int))) rfl (ev_mk rfl) (by rw [show (0 : Int) - (i : Int) = -(i : Int) by omega]; exact w64 (by omega))) trivial ?_
          refine rl0 (gn rfl) rfl rfl (step_bits (r := (low i : Int)) rfl (ev_mk rfl) (ev_mk rfl) (.inl rfl) (low_and (by omega) (by omega))) trivial ?_
          refine rl0 (gn rfl) rfl rfl (step_add rfl (ev_mk rfl) (ev_mk rfl) (w64 (by omega))) trivial ?_
          refine rl0 (gn rfl) rfl rfl (step_as rfl rfl) trivial ?_
          refine runsL_nil ?_
          refine ⟨_, _, ?_, sle ?_ (Nat.le_refl _), (i + low i), u, _, _, rfl, rfl, by omega, (fun k_ hk_ e0_ => by repeat (first | exact hf0 k_ hk_ e0_ | exact hf1 k_ hk_ | exact hf2 k_ hk_ | exact hf3 k_ hk_ | exact hf1 k_ hk_ e0_ | exact hf2 k_ hk_ e0_ | exact hf3 k_ hk_ e0_ | refine (upd_ne _ _ _ _ (by first | assumption | omega)).trans ?_ | fail)), by first | ((repeat (first | exact upd_eq _ _ _ | assumption | refine (upd_ne _ _ _ _ (by omega)).trans ?_ | fail)); done) | exact tl_eq (by repeat (first | exact upd_eq _ _ _ | assumption | refine (upd_ne _ _ _ _ (by omega)).trans ?_ | fail)) (by first | rfl | (simp [bytesV, beB_len]; done) | (simp [bytesV, beB_len]; omega) | omega), by omega, by omega, by have e1 := addO_step (g := f) (n := n_) (b := tl x y / 8 + 1) (i := i) (by omega) (by omega); have e2 := addI_end (g := u) (i := i) (n := n_) (q := q) (by assumption); rw [← hF0_2, ← e1, ← hF1_2, e2], bdG_mono hF1_3 (by omega)⟩
          · omega
          · (repeat' (first | exact trivial | refine ⟨⟨_, rfl, ?_⟩, ?_⟩ | fail)); all_goals (repeat' (first | exact VLe.refl _ | exact VLe.own_sl _ _ _ | exact VLe.fl_sl _ _ | exact VLe.nil_sl _ | exact VLe.nil_fl _ | exact VLes.refl _ | exact .nil | refine VLe.tup ?_ | refine VLe.agg ?_ | refine .cons ?_ ?_ | (rw [Int.natCast_add]; exact VLe.refl _) | exact vle_int (by omega) | exact vle_bool (by first | rfl | assumption | (simp_all; done)) | fail))
    · skip
      refine runsL_nil ?_
      refine runs_cond false (ev_mk rfl) (fun h_ => nomatch h_) (fun _ => ?_)
      refine runs_exit ?_
      have hend_ : f = addO g n_ (tl x y % 8 + 1) (tl x y / 8 + 1) := by rw [← hF0_2, addO_end (by assumption)]
      subst hend_
      refine ⟨by first | exact .inr rfl | exact .inl rfl, fin_mkg res0 ?_ ?_ ?_ ?_ ?_⟩
      · (repeat' (first | exact VLe.refl _ | exact VLe.own_sl _ _ _ | exact VLe.fl_sl _ _ | exact VLe.nil_sl _ | exact VLe.nil_fl _ | exact VLes.refl _ | exact .nil | refine VLe.tup ?_ | refine VLe.agg ?_ | refine .cons ?_ ?_ | (rw [Int.natCast_add]; exact VLe.refl _) | exact vle_int (by omega) | exact vle_bool (by first | rfl | assumption | (simp_all; done)) | fail))
      · repeat (first | exact trivial | assumption | omega | exact bd_bs | exact bd_row | exact bd_secs | exact bd_bools | (refine bdR_map (fun _ => ?_)) | (refine bdL_map (fun _ => ?_)) | refine ⟨?_, ?_⟩ | fail)
      · intro k_ hk_; simp only [upds]; by_cases e_ : k_ = k; (focus subst e_; refine bl_eq ?_; first | (refine' blec ?hb ?hl; (case hb => repeat (first | exact upd_eq _ _ _ | assumption | refine (upd_ne _ _ _ _ (by omega)).trans ?_ | fail)); (case hl => first | exact VLes.refl _ | ((repeat' (first | exact VLe.refl _ | exact VLe.own_sl _ _ _ | exact VLe.fl_sl _ _ | exact VLe.nil_sl _ | exact VLe.nil_fl _ | exact VLes.refl _ | exact .nil | refine VLe.tup ?_ | refine VLe.agg ?_ | refine .cons ?_ ?_ | (rw [Int.natCast_add]; exact VLe.refl _) | exact vle_int (by omega) | exact vle_bool (by first | rfl | assumption | (simp_all; done)) | fail)); done))) | (refine ble ?_; (repeat (first | exact upd_eq _ _ _ | assumption | refine (upd_ne _ _ _ _ (by omega)).trans ?_ | fail)); done) | exact ble (tl_eq (by repeat (first | exact upd_eq _ _ _ | assumption | refine (upd_ne _ _ _ _ (by omega)).trans ?_ | fail)) (by first | rfl | (simp [bytesV, beB_len]; done) | (simp [bytesV, beB_len]; omega) | omega))); refine bl_ne e_ ?_; exact ble (by first | exact rfl | (refine (upd_ne _ _ _ _ (by omega)).trans ?_; first | exact rfl | skip; repeat (first | exact rfl | refine (upd_ne _ _ _ _ (by omega)).trans ?_ | assumption | exact hf0 _ (by omega) | exact hf1 _ (by omega) | exact hf2 _ (by omega) | exact hf3 _ (by omega) | exact hf0 _ (by omega) (by first | assumption | omega) | exact hf1 _ (by omega) (by first | assumption | omega) | exact hf2 _ (by omega) (by first | assumption | omega) | exact hf3 _ (by omega) (by first | assumption | omega) | exact hf0 _ (by omega) (by first | assumption | omega) (by first | assumption | omega) | exact hf1 _ (by omega) (by first | assumption | omega) (by first | assumption | omega) | exact hf2 _ (by omega) (by first | assumption | omega) (by first | assumption | omega) | exact hf3 _ (by omega) (by first | assumption | omega) (by first | assumption | omega))) | exact hf0 _ (by omega) | exact hf1 _ (by omega) | exact hf2 _ (by omega) | exact hf3 _ (by omega) | exact hf0 _ (by omega) (by first | assumption | omega) | exact hf1 _ (by omega) (by first | assumption | omega) | exact hf2 _ (by omega) (by first | assumption | omega) | exact hf3 _ (by omega) (by first | assumption | omega) | exact hf0 _ (by omega) (by first | assumption | omega) (by first | assumption | omega) | exact hf1 _ (by omega) (by first | assumption | omega) (by first | assumption | omega) | exact hf2 _ (by omega) (by first | assumption | omega) (by first | assumption | omega) | exact hf3 _ (by omega) (by first | assumption | omega) (by first | assumption | omega))
      · intro p hp cs hcs; simp only [List.mem_cons, List.not_mem_nil, or_false] at hp; (first | (rcases hp with rfl)) <;> (first | (cases hcs; done) | (cases hcs; repeat (first | exact trivial | assumption | omega | exact bd_bs | exact bd_row | exact bd_secs | exact bd_bools | (refine bdR_map (fun _ => ?_)) | (refine bdL_map (fun _ => ?_)) | refine ⟨?_, ?_⟩ | fail)))
      · repeat (first | exact trivial | assumption | omega | exact bd_bs | exact bd_row | exact bd_secs | exact bd_bools | (refine bdR_map (fun _ => ?_)) | (refine bdL_map (fun _ => ?_)) | refine ⟨?_, ?_⟩ | fail)
end Go.Proofs.Ytgfpgaaoigeopaa
