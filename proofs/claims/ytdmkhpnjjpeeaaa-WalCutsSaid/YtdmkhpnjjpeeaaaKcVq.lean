import Derived.Test.YtdmkhpnjjpeeaaaKcQq
import Derived.Test.YtdmkhpnjjpeeaaaKcVmP
import Derived.Test.YtdmkhpnjjpeeaaaKcVmT
import Derived.Test.YtdmkhpnjjpeeaaaKcWa
import Derived.Test.YtdmkhpnjjpeeaaaKcWc
import Derived.Test.YtdmkhpnjjpeeaaaKcWd
import Derived.Test.YtdmkhpnjjpeeaaaKcWe
import Derived.Test.YtdmkhpnjjpeeaaaKcVd
import Derived.Test.YtdmkhpnjjpeeaaaKcVe
import Derived.Test.YtdmkhpnjjpeeaaaKcVj
import Derived.Test.YtdmkhpnjjpeeaaaKcVk
import Derived.Test.YtdmkhpnjjpeeaaaKcVn
import Derived.Test.YtdmkhpnjjpeeaaaKcWh
import Derived.Test.YtdmkhpnjjpeeaaaKcVmZ
namespace Go.Proofs.Ytdmkhpnjjpeeaaa
open Go.Vm
set_option linter.unusedVariables false
set_option linter.unusedSimpArgs false
attribute [local irreducible] Go.Vm.beB
def mkS (v f m : Int) (c : List Int) : List Int := beB 8 v ++ (f :: m :: (c ++ List.replicate (54 - c.length) 0))
theorem mkS_len {v f m : Int} {c : List Int} (h : c.length ≤ 54) : (mkS v f m c).length = 64 := by
  unfold mkS; simp only [List.length_append, List.length_cons, List.length_replicate, beB_len]; omega
def nS (b : List Int) : Nat := (b.length + 53) / 54
def chk (b : List Int) (i : Nat) : List Int := (b.drop (54 * i)).take 54
def flS (b : List Int) (i : Nat) : Int := (if i = 0 then 1 else 0) + (if i + 1 = nS b then 2 else 0)
def secA (b : List Int) (a i : Nat) : List Int := mkS ((a + i + 1 : Nat) : Int) (flS b i) ((chk b i).length : Int) (chk b i)
def cutT (b : List Int) (a i : Nat) : List (List Int) := (List.range i).map (secA b a)
def cutB (b : List Int) (a : Nat) : List (List Int) := cutT b a (nS b)
theorem chk_len (b : List Int) (i : Nat) : (chk b i).length ≤ 54 := by unfold chk; rw [List.length_take]; omega
theorem chk_len2 (b : List Int) (i : Nat) : (chk b i).length = if 54 ≤ b.length - 54 * i then 54 else b.length - 54 * i := by
  unfold chk; rw [List.length_take, List.length_drop]; split <;> omega
theorem chk_f (b : List Int) (i : Nat) : (chk b i).length ≤ 54 ∧ (chk b i).length ≤ b.length - 54 * i ∧ (54 ≤ b.length - 54 * i → (chk b i).length = 54) ∧ (b.length - 54 * i ≤ 54 → (chk b i).length = b.length - 54 * i) := by
  rw [chk_len2]; split <;> omega
theorem secA_len (b : List Int) (a i : Nat) : (secA b a i).length = 64 := mkS_len (chk_len b i)
theorem cutB_64 (b : List Int) (a : Nat) : ∀ r ∈ cutB b a, r.length = 64 := fun r hr => by
  obtain ⟨i, _, rfl⟩ := List.mem_map.1 hr; exact secA_len b a i
theorem cutB_len (b : List Int) (a : Nat) : (cutB b a).length = nS b := by unfold cutB cutT; rw [List.length_map, List.length_range]
theorem cut_nx {b : List Int} {a i : Nat} {F v m : Int} (hF : F = flS b i) (hv : v = ((a + i + 1 : Nat) : Int)) (hm : m = ((chk b i).length : Int)) : secsV (cutT b a i) ++ [(mkS v F m (chk b i)).map bV] = secsV (cutT b a (i + 1)) := by
  subst hF hv hm
  unfold cutT secsV; rw [List.range_succ, List.map_append, List.map_append]; rfl
theorem mkS_z : List.replicate 64 (V.sc (.int .u8 0)) = (mkS 0 0 0 []).map bV := by unfold mkS; rw [show Go.Vm.beB 8 0 = List.replicate 8 0 from by decide +kernel]; rfl
theorem mkS_b8 {v f m : Int} {c : List Int} : ((mkS v f m c).map bV)[8]? = some (bV f) := by
  unfold mkS; rw [List.map_append, List.getElem?_append_right (by simp [beB_len])]; simp [beB_len]
theorem mkS_b9 {v f m : Int} {c : List Int} : ((mkS v f m c).map bV)[9]? = some (bV m) := by
  unfold mkS; rw [List.map_append, List.getElem?_append_right (by simp [beB_len])]; simp [beB_len]
theorem mkS_s8 {v f m x : Int} {c : List Int} : ((mkS v f m c).map bV).set 8 (bV x) = (mkS v x m c).map bV := by
  unfold mkS; rw [List.map_append, List.set_append_right _ _ (by simp [beB_len])]; simp [beB_len]
theorem mkS_s9 {v f m x : Int} {c : List Int} : ((mkS v f m c).map bV).set 9 (bV x) = (mkS v f x c).map bV := by
  unfold mkS; rw [List.map_append, List.set_append_right _ _ (by simp [beB_len])]; simp [beB_len]
theorem mkS_v {v f m x : Int} {c : List Int} : setSeg ((mkS v f m c).map bV) 0 (bytesV (beB 8 x)).flatten = (mkS x f m c).map bV := by
  have h1 : (bytesV (beB 8 x)).flatten = (beB 8 x).map bV := by
    unfold bytesV
    generalize beB 8 x = l
    induction l with
    | nil => rfl
    | cons a l ih => rw [List.map_cons, List.flatten_cons, ih]; rfl
  rw [h1]; unfold setSeg mkS
  rw [List.map_append, List.map_append, List.take_zero, List.nil_append, List.length_map, beB_len]
  congr 1
  rw [List.drop_append_of_le_length (by simp [beB_len]), List.drop_eq_nil_of_le (by simp [beB_len]), List.nil_append]
theorem flat1 (l : List Int) : (bytesV l).flatten = l.map bV := by
  induction l with
  | nil => rfl
  | cons a l ih => show [bV a] ++ _ = _; rw [show (List.map (fun x => [bV x]) l).flatten = (bytesV l).flatten from rfl, ih]; rfl
theorem mkS_c {v f m : Int} {c : List Int} (h : c.length ≤ 54) : setSeg ((mkS v f m []).map bV) 10 (bytesV c).flatten = (mkS v f m c).map bV := by
  rw [flat1]; unfold setSeg mkS
  have e : (beB 8 v ++ (f :: m :: ([] ++ List.replicate (54 - ([] : List Int).length) 0))).map bV = ((beB 8 v ++ [f, m]).map bV) ++ (List.replicate 54 0).map bV := by simp
  have l10 : ((beB 8 v ++ [f, m]).map bV).length = 10 := by simp [beB_len]
  rw [e, List.take_append_of_le_length (by omega), List.take_of_length_le (by omega), List.drop_append, l10, List.drop_eq_nil_of_le (by rw [l10, List.length_map]; omega), List.nil_append, ← List.map_drop, List.drop_replicate]
  simp [List.length_map]
theorem nS_lt {b : List Int} {i : Nat} : 54 * i < b.length ↔ i < nS b := by unfold nS; omega
theorem chk_at {v f m : Int} {c : List Int} (h : c.length ≤ 54) : (((mkS v f m c).map bV).drop 10).take (c.length * 1) = c.map bV := by
  have e : (mkS v f m c).map bV = ((beB 8 v ++ [f, m]).map bV) ++ (c.map bV ++ (List.replicate (54 - c.length) 0).map bV) := by unfold mkS; simp
  have l10 : ((beB 8 v ++ [f, m]).map bV).length = 10 := by simp [beB_len]
  rw [e, List.drop_append_of_le_length (by omega), List.drop_eq_nil_of_le (by omega), List.nil_append, Nat.mul_one, List.take_append_of_le_length (by simp), List.take_of_length_le (by simp)]
theorem rows1 : ∀ (c : List Int), rowsOf 1 c.length (c.map bV) = bytesV c
  | [] => rfl
  | x :: c => by
    show (List.take 1 (bV x :: c.map bV)) :: rowsOf 1 c.length (List.drop 1 (bV x :: c.map bV)) = _
    rw [List.take_succ_cons, List.take_zero, List.drop_succ_cons, List.drop_zero, rows1 c]; rfl
theorem cut_dr {b : List Int} {i : Nat} : (bytesV (b.drop (54 * i))).drop (chk b i).length = bytesV (b.drop (54 * (i + 1))) := by
  unfold bytesV
  rw [← List.map_drop, List.drop_drop, chk_len2]
  congr 1
  split
  · congr 1
  · rw [List.drop_eq_nil_of_le (by omega), List.drop_eq_nil_of_le (by omega)]
theorem cut_tk {b : List Int} {i : Nat} : (bytesV (b.drop (54 * i))).take (chk b i).length = bytesV (chk b i) := by
  unfold bytesV chk
  rw [← List.map_take]
  congr 1
  rw [List.length_take]
  rcases Nat.le_total 54 (b.drop (54 * i)).length with h | h
  · rw [Nat.min_eq_left h]
  · rw [Nat.min_eq_right h, List.take_of_length_le (Nat.le_refl _), List.take_of_length_le h]
theorem or_1 : bits .or .u8 0 1 = 1 := by decide
theorem or_2 {x : Int} (h : x = 0 ∨ x = 1) : bits .or .u8 x 2 = x + 2 := by rcases h with rfl | rfl <;> decide
theorem step_minr {P : Program} {o : Oper} {t : Nat → V} {x y : Operand} {tys : Array TypeId} {k : IntKind} {a b r : Int} (ho : o.op = .call { callee := .builtin .min, args := #[x, y], argTypes := tys }) (hx : ev t x = .sc (.int k a)) (hy : ev t y = .sc (.int k b)) (h : (if b < a then b else a) = r) : StepOK P o t [] [] (.sc (.int k r)) := h ▸ step_min ho hx hy
theorem step_maxr {P : Program} {o : Oper} {t : Nat → V} {x y : Operand} {tys : Array TypeId} {k : IntKind} {a b r : Int} (ho : o.op = .call { callee := .builtin .max, args := #[x, y], argTypes := tys }) (hx : ev t x = .sc (.int k a)) (hy : ev t y = .sc (.int k b)) (h : (if b > a then b else a) = r) : StepOK P o t [] [] (.sc (.int k r)) := h ▸ step_max ho hx hy
set_option maxRecDepth 100000 in
set_option maxHeartbeats 4000000 in
theorem cut_c (b : List Int) (a : Nat) (hb : Byts b) (hl : b.length ≤ 1000000) (ha : a ≤ 1000000) : Does Try.prog 8 [.sl 1 (bytesV b), .sc (.int .i64 (a : Int))] [] [] (.sl 64 (secsV (cutB b a))) := by
  refine does_mkg 40 Try.func8 rfl rfl rfl (fun n B bx hd hpre hup hvs hbx hgx => ?_);refine runs_seq ?_;refine runs_region ?_;refine rl0 (gn rfl) rfl rfl (step_as rfl rfl) trivial ?_;refine runsL_nil ?_;refine runs_seq ?_;refine runs_region ?_;refine rl0 (gn rfl) rfl rfl (step_as rfl rfl) trivial ?_;refine runsL_nil ?_;refine runs_seq ?_;refine runs_seq ?_;refine runs_region ?_;refine rl0 (gn rfl) rfl rfl (step_as rfl rfl) trivial ?_;refine runsL_nil ?_;refine runs_block ?_;refine runs_grow (l' := []) (d := 5) (k := n + 0) (e := 64) (xs := []) rfl (.inr ⟨rfl, rfl⟩) t_0 (by omega) ?_;have hs0_ : (bytesV b) = (bytesV (b.drop (54 * 0))) := by rfl
  have hs1_ : [] = (secsV (cutT b a 0)) := by rfl
  refine runs_loop (fun (ri_ : Nat) (st_ : Go.Vm.S) => ∃ (i : Nat) (m0 : Nat) (b0 : Nat → Box), (st_ = ⟨mk [(0, .sl 1 (bytesV (b.drop (54 * i)))), (1, .sc (.int .i64 (a : Int))), (4, .sc (.slice none 0 0)), (5, .own 64 (secsV (cutT b a i)) (n + 0)), (6, .sc (.int .i64 (i : Int)))], m0, b0⟩) ∧ (ri_ = 1 + (b.length - 54 * i)) ∧ (n + 1 ≤ m0) ∧ (∀ k_, k_ < n → b0 k_ = bx k_) ∧ (b0 (n + 0) = .tail (secsV (cutT b a i)).length) ∧ (i ≤ nS b)) (1 + (b.length - 54 * 0)) ⟨_, sle ?_ (Nat.le_refl _), 0, _, _, rfl, rfl, ?_⟩ ?_
  · exact t_25
  · exact ⟨by omega, (fun k_ hk_ => t_14), t_167, by omega⟩
  · rintro _ _ ⟨i, m0, b0, rfl, rfl, hm0, hf0, hB0_0, hF0_0⟩
    refine runs_know (fun hd0 => ?_);refine runs_bump 20 ?_;simp only at hd0;have hdl_ : (b.drop (54 * i)).length = b.length - 54 * i := List.length_drop;have hcl_ := chk_f b i;have hnl_ := nS_lt (b := b) (i := i);have hns_ : nS b = (b.length + 53) / 54 := rfl;have hct_ : (cutT b a i).length = i := by unfold cutT; rw [List.length_map, List.length_range]
    refine runs_seq ?_;refine runs_seq ?_;refine runs_region ?_;refine rl0 (gn rfl) rfl rfl (step_mv rfl rfl) trivial ?_;refine rl0 (gn rfl) rfl rfl (step_len (m := (b.drop (54 * i)).length) rfl rfl (ev_mk rfl) (.inl ⟨⟨_, Try.underlying22⟩, .inl ⟨_, _, .inl rfl, List.length_map _⟩⟩)) trivial ?_;refine rl_gtr (gn rfl) rfl rfl rfl rfl rfl (fun h1 => ?_) (fun h1 => ?_)
    · skip
      refine runsL_nil ?_;refine runs_cond true (ev_mk rfl) (fun _ => ?_) (fun h_ => nomatch h_);refine runs_skip ?_;refine runs_seq ?_;refine runs_block ?_;refine runs_seq ?_;refine runs_region ?_;refine rl0 (gn rfl) rfl rfl (step_mv rfl rfl) trivial ?_;refine rl0 (gn rfl) rfl rfl (step_len (m := (b.drop (54 * i)).length) rfl rfl (ev_mk rfl) (.inl ⟨⟨_, Try.underlying22⟩, .inl ⟨_, _, .inl rfl, List.length_map _⟩⟩)) trivial ?_;refine rl0 (gn rfl) rfl rfl (step_minr (r := (((chk b i).length : Nat) : Int)) rfl (ev_mk rfl) (ev_mk rfl) (by split <;> omega)) trivial ?_;refine rl0 (gn rfl) rfl rfl (step_as rfl rfl) trivial ?_;refine runsL_nil ?_;refine runs_seq ?_;refine runs_region ?_;refine rl1 (gn rfl) rfl rfl (step_allocc (k := m0 + 0) (zs := (List.replicate 64 (.int .u8 0))) (cs := List.replicate 64 (.sc (.int .u8 0))) rfl F.zero47 t_33 t_55 t_33) ⟨t_4, trivial⟩ (by omega) ?_;refine runsL_nil ?_;refine runs_seq ?_;refine runs_boxle (k := m0 + 0) (cs' := ((mkS 0 0 0 []).map bV)) t_4 (by rw [mkS_z]; exact VLes.refl _) ?_;refine runs_draw (by kernel_rfl) (by kernel_rfl) (by kernel_rfl) ?_;refine dl0 (gn rfl) rfl rfl (step_sl_arr (a := 0) (h := 64) (m := 64) (q' := 0) (n' := 64) (c' := 64) rfl (ev_mk rfl) Try.underlying47 F.sz5 bndLo_none bndHi_none bndHi_none (fun h_ => t_106) (by omega) (by omega) (by omega) t_59 t_73 t_73) trivial ?_;refine dl0 (gn rfl) rfl rfl (step_mv rfl rfl) trivial ?_;refine dl0 (gn rfl) rfl rfl (step_mv rfl rfl) trivial ?_;refine dl0 (gn rfl) rfl rfl (step_add rfl (ev_mk rfl) (ev_mk rfl) (w64 (by omega))) trivial ?_;refine dl0 (gn rfl) rfl rfl (step_add rfl (ev_mk rfl) (ev_mk rfl) (w64 (by omega))) trivial ?_;refine dl0 (gn rfl) rfl rfl (step_conv_id rfl rfl Try.underlying3 Try.underlying33 (wu64 (by omega))) trivial ?_;refine dl0 (gn rfl) rfl rfl (step_callc rfl Try.func32 rfl rfl rfl (wput_c [] ((a : Int) + (i : Int) + 1) t_98 8 (by omega) (by simp)) t_8) trivial ?_;refine' dl1 (gn rfl) rfl rfl (step_copy (m := 8) (cs' := ((mkS ((a : Int) + (i : Int) + 1) 0 0 []).map bV)) rfl rfl Try.underlying22 F.sz5 (ev_mk rfl) (ev_mk rfl) (gives_sl (.inl rfl)) ?hmn ?hl ?hcs) ⟨?hb, trivial⟩ (by omega) ?_
      case hb => exact t_4
      case hmn => (rw [bytesV, List.length_map, List.nil_append, beB_len]; rfl)
      case hl => exact t_136
      case hcs => exact (congrArg (setSeg _ _) (congrArg List.flatten (List.take_of_length_le (by rw [bytesV, List.length_map, List.nil_append, beB_len]; exact Nat.le_refl _)))).trans mkS_v
      refine dlnil ?_ ?_
      · exact t_12
      refine runs_seq ?_;refine runs_seq ?_;refine runs_region ?_;refine rl0 (gn rfl) rfl rfl (step_mv rfl rfl) trivial ?_;refine rl_eql (gn rfl) rfl rfl rfl rfl rfl (fun h2 => ?_) (fun h2 => ?_)
      · skip
        refine runsL_nil ?_;refine runs_cond true (ev_mk rfl) (fun _ => ?_) (fun h_ => nomatch h_);refine runs_region ?_;refine rl0 (gn rfl) rfl rfl (step_index_arr rfl (ev_mk rfl) (ev_mk rfl) Try.underlying47 F.sz5 (by omega) (by omega)) trivial ?_;refine' rl0 (gn rfl) rfl rfl (step_load_one (v := .sc (.int .u8 0)) rfl (ev_mk rfl) F.one5 ?hv) ⟨?hb, trivial⟩ ?_
        case hb => exact t_4
        case hv => exact mkS_b8
        refine rl0 (gn rfl) rfl rfl (step_bits (r := 1) rfl (ev_mk rfl) (ev_mk rfl) (.inr (.inl rfl)) (or_1)) trivial ?_;refine rl0 (gn rfl) rfl rfl (step_index_arr rfl (ev_mk rfl) (ev_mk rfl) Try.underlying47 F.sz5 (by omega) (by omega)) trivial ?_;refine' rls (gn rfl) rfl (step_store1 (cs' := ((mkS ((a : Int) + (i : Int) + 1) 1 0 []).map bV)) rfl rfl rfl rfl F.one5 rfl rfl ?hl ?hc) ⟨?hb, trivial⟩ ?hk ?_
        case hb => exact t_4
        case hl => exact t_136
        case hc => exact mkS_s8
        case hk => omega
        refine runsL_nil ?_;refine runs_seq ?_;refine runs_seq ?_;refine runs_region ?_;refine rl0 (gn rfl) rfl rfl (step_mv rfl rfl) trivial ?_;refine rl0 (gn rfl) rfl rfl (step_mv rfl rfl) trivial ?_;refine rl0 (gn rfl) rfl rfl (step_len (m := (b.drop (54 * i)).length) rfl rfl (ev_mk rfl) (.inl ⟨⟨_, Try.underlying22⟩, .inl ⟨_, _, .inl rfl, List.length_map _⟩⟩)) trivial ?_;refine rl_eql (gn rfl) rfl rfl rfl rfl rfl (fun h3 => ?_) (fun h3 => ?_)
        · skip
          refine runsL_nil ?_;refine runs_cond true (ev_mk rfl) (fun _ => ?_) (fun h_ => nomatch h_);refine runs_region ?_;refine rl0 (gn rfl) rfl rfl (step_index_arr rfl (ev_mk rfl) (ev_mk rfl) Try.underlying47 F.sz5 (by omega) (by omega)) trivial ?_;refine' rl0 (gn rfl) rfl rfl (step_load_one (v := .sc (.int .u8 1)) rfl (ev_mk rfl) F.one5 ?hv) ⟨?hb, trivial⟩ ?_
          case hb => exact t_4
          case hv => exact mkS_b8
          refine rl0 (gn rfl) rfl rfl (step_bits (r := 3) rfl (ev_mk rfl) (ev_mk rfl) (.inr (.inl rfl)) (or_2 (by omega))) trivial ?_;refine rl0 (gn rfl) rfl rfl (step_index_arr rfl (ev_mk rfl) (ev_mk rfl) Try.underlying47 F.sz5 (by omega) (by omega)) trivial ?_;refine' rls (gn rfl) rfl (step_store1 (cs' := ((mkS ((a : Int) + (i : Int) + 1) 3 0 []).map bV)) rfl rfl rfl rfl F.one5 rfl rfl ?hl ?hc) ⟨?hb, trivial⟩ ?hk ?_
          case hb => exact t_4
          case hl => exact t_136
          case hc => exact mkS_s8
          case hk => omega
          refine runsL_nil ?_;refine runs_seq ?_;refine runs_region ?_;refine rl0 (gn rfl) rfl rfl (step_mv rfl rfl) trivial ?_;refine rl0 (gn rfl) rfl rfl (step_conv_id rfl rfl Try.underlying3 Try.underlying5 (wu8 (by omega))) trivial ?_;refine rl0 (gn rfl) rfl rfl (step_index_arr rfl (ev_mk rfl) (ev_mk rfl) Try.underlying47 F.sz5 (by omega) (by omega)) trivial ?_;refine' rls (gn rfl) rfl (step_store1 (cs' := ((mkS ((a : Int) + (i : Int) + 1) 3 (((chk b i).length : Nat) : Int) []).map bV)) rfl rfl rfl rfl F.one5 rfl rfl ?hl ?hc) ⟨?hb, trivial⟩ ?hk ?_
          case hb => exact t_4
          case hl => exact t_136
          case hc => exact mkS_s9
          case hk => omega
          refine runsL_nil ?_;refine runs_seq ?_;refine runs_draw (by kernel_rfl) (by kernel_rfl) (by kernel_rfl) ?_;refine dl0 (gn rfl) rfl rfl (step_sl_arr (a := 10) (h := 64) (m := 64) (q' := 10) (n' := 54) (c' := 54) rfl (ev_mk rfl) Try.underlying47 F.sz5 (bndLo_nat (a := 10) rfl t_20) bndHi_none bndHi_none (fun h_ => t_106) (by omega) (by omega) (by omega) t_59 t_73 t_73) trivial ?_;refine dl0 (gn rfl) rfl rfl (step_mv rfl rfl) trivial ?_;refine dl0 (gn rfl) rfl rfl (step_mv rfl rfl) trivial ?_;refine dl0 (gn rfl) rfl rfl (step_slice (ys := bytesV (chk b i)) (l := 0) (h := (chk b i).length) rfl (ev_mk rfl) (.inl rfl) Try.underlying22 F.sz5 bndLo_none (bndHi_nat (a := (chk b i).length) rfl t_20) t_53 t_81 (cut_tk)) trivial ?_;refine' dl1 (gn rfl) rfl rfl (step_copy (m := (chk b i).length) (cs' := ((mkS ((a : Int) + (i : Int) + 1) 3 (((chk b i).length : Nat) : Int) (chk b i)).map bV)) rfl rfl Try.underlying22 F.sz5 (ev_mk rfl) (ev_mk rfl) (gives_sl (.inl rfl)) ?hmn ?hl ?hcs) ⟨?hb, trivial⟩ (by omega) ?_
          case hb => exact t_4
          case hmn => exact t_115
          case hl => exact t_136
          case hcs => exact t_74
          refine dlnil ?_ ?_
          · exact t_12
          refine runs_seq ?_;refine runs_region ?_;refine rl0 (gn rfl) rfl rfl (step_mv rfl rfl) trivial ?_;refine' rl0 (gn rfl) rfl rfl (step_load_all rfl rfl F.agg47 ?hl) ⟨?hb, trivial⟩ ?_
          case hb => exact t_4
          case hl => exact t_54
          refine rl0 (gn rfl) rfl rfl (step_lit rfl Try.underlying27 F.sz47 F.zero47 t_33 t_139 (by decide) rfl rfl t_99 rfl) trivial ?_;refine' rl1 (gn rfl) rfl rfl (step_append_own rfl rfl rfl Try.underlying27 ⟨_, Try.underlying27, fun k_ => t_49⟩ F.el47 (ev_mk rfl) (ev_mk rfl) (gives_sl (.inr (.inl rfl))) ?hg) ⟨?hb, trivial⟩ (by omega) ?_
          case hb => exact t_4
          case hg => exact t_68
          refine rl0 (gn rfl) rfl rfl (step_as rfl rfl) trivial ?_;refine runsL_nil ?_;refine runs_region ?_;refine rl0 (gn rfl) rfl rfl (step_mv rfl rfl) trivial ?_;refine rl0 (gn rfl) rfl rfl (step_mv rfl rfl) trivial ?_;refine rl0 (gn rfl) rfl rfl (step_slice (ys := bytesV (b.drop (54 * (i + 1)))) (l := (chk b i).length) (h := (bytesV (b.drop (54 * i))).length) rfl (ev_mk rfl) (.inl rfl) Try.underlying22 F.sz5 (bndLo_nat (a := (chk b i).length) rfl t_20) bndHi_none t_81 (by omega) (by rw [List.take_length]; exact cut_dr)) trivial ?_;refine rl0 (gn rfl) rfl rfl (step_as rfl rfl) trivial ?_;refine runsL_nil ?_;refine runs_region ?_;refine rl0 (gn rfl) rfl rfl (step_mv rfl rfl) trivial ?_;refine rl0 (gn rfl) rfl rfl (step_add rfl (ev_mk rfl) (ev_mk rfl) (w64 (by omega))) trivial ?_;refine rl0 (gn rfl) rfl rfl (step_as rfl rfl) trivial ?_;refine runsL_nil ?_;have hq0_ : ((secsV (cutT b a i)) ++ [((mkS ((a : Int) + (i : Int) + 1) 3 (((chk b i).length : Nat) : Int) (chk b i)).map bV)]) = (secsV (cutT b a (i + 1))) := by exact cut_nx (by unfold flS; rw [if_pos (show i = 0 by omega), if_pos (show i + 1 = nS b by omega)]; rfl) (by omega) rfl
          refine ⟨_, _, ?_, sle ?_ (Nat.le_refl _), (i + 1), _, _, rfl, rfl, by omega, (fun k_ hk_ => t_24), t_130, by omega⟩
          · omega
          · exact t_3
        · skip
          refine runsL_nil ?_;refine runs_cond false (ev_mk rfl) (fun h_ => nomatch h_) (fun _ => ?_);refine runs_skip ?_;refine runs_seq ?_;refine runs_region ?_;refine rl0 (gn rfl) rfl rfl (step_mv rfl rfl) trivial ?_;refine rl0 (gn rfl) rfl rfl (step_conv_id rfl rfl Try.underlying3 Try.underlying5 (wu8 (by omega))) trivial ?_;refine rl0 (gn rfl) rfl rfl (step_index_arr rfl (ev_mk rfl) (ev_mk rfl) Try.underlying47 F.sz5 (by omega) (by omega)) trivial ?_;refine' rls (gn rfl) rfl (step_store1 (cs' := ((mkS ((a : Int) + (i : Int) + 1) 1 (((chk b i).length : Nat) : Int) []).map bV)) rfl rfl rfl rfl F.one5 rfl rfl ?hl ?hc) ⟨?hb, trivial⟩ ?hk ?_
          case hb => exact t_4
          case hl => exact t_136
          case hc => exact mkS_s9
          case hk => omega
          refine runsL_nil ?_;refine runs_seq ?_;refine runs_draw (by kernel_rfl) (by kernel_rfl) (by kernel_rfl) ?_;refine dl0 (gn rfl) rfl rfl (step_sl_arr (a := 10) (h := 64) (m := 64) (q' := 10) (n' := 54) (c' := 54) rfl (ev_mk rfl) Try.underlying47 F.sz5 (bndLo_nat (a := 10) rfl t_20) bndHi_none bndHi_none (fun h_ => t_106) (by omega) (by omega) (by omega) t_59 t_73 t_73) trivial ?_;refine dl0 (gn rfl) rfl rfl (step_mv rfl rfl) trivial ?_;refine dl0 (gn rfl) rfl rfl (step_mv rfl rfl) trivial ?_;refine dl0 (gn rfl) rfl rfl (step_slice (ys := bytesV (chk b i)) (l := 0) (h := (chk b i).length) rfl (ev_mk rfl) (.inl rfl) Try.underlying22 F.sz5 bndLo_none (bndHi_nat (a := (chk b i).length) rfl t_20) t_53 t_81 (cut_tk)) trivial ?_;refine' dl1 (gn rfl) rfl rfl (step_copy (m := (chk b i).length) (cs' := ((mkS ((a : Int) + (i : Int) + 1) 1 (((chk b i).length : Nat) : Int) (chk b i)).map bV)) rfl rfl Try.underlying22 F.sz5 (ev_mk rfl) (ev_mk rfl) (gives_sl (.inl rfl)) ?hmn ?hl ?hcs) ⟨?hb, trivial⟩ (by omega) ?_
          case hb => exact t_4
          case hmn => exact t_115
          case hl => exact t_136
          case hcs => exact t_74
          refine dlnil ?_ ?_
          · exact t_12
          refine runs_seq ?_;refine runs_region ?_;refine rl0 (gn rfl) rfl rfl (step_mv rfl rfl) trivial ?_;refine' rl0 (gn rfl) rfl rfl (step_load_all rfl rfl F.agg47 ?hl) ⟨?hb, trivial⟩ ?_
          case hb => exact t_4
          case hl => exact t_54
          refine rl0 (gn rfl) rfl rfl (step_lit rfl Try.underlying27 F.sz47 F.zero47 t_33 t_139 (by decide) rfl rfl t_99 rfl) trivial ?_;refine' rl1 (gn rfl) rfl rfl (step_append_own rfl rfl rfl Try.underlying27 ⟨_, Try.underlying27, fun k_ => t_49⟩ F.el47 (ev_mk rfl) (ev_mk rfl) (gives_sl (.inr (.inl rfl))) ?hg) ⟨?hb, trivial⟩ (by omega) ?_
          case hb => exact t_4
          case hg => exact t_68
          refine rl0 (gn rfl) rfl rfl (step_as rfl rfl) trivial ?_;refine runsL_nil ?_;refine runs_region ?_;refine rl0 (gn rfl) rfl rfl (step_mv rfl rfl) trivial ?_;refine rl0 (gn rfl) rfl rfl (step_mv rfl rfl) trivial ?_;refine rl0 (gn rfl) rfl rfl (step_slice (ys := bytesV (b.drop (54 * (i + 1)))) (l := (chk b i).length) (h := (bytesV (b.drop (54 * i))).length) rfl (ev_mk rfl) (.inl rfl) Try.underlying22 F.sz5 (bndLo_nat (a := (chk b i).length) rfl t_20) bndHi_none t_81 (by omega) (by rw [List.take_length]; exact cut_dr)) trivial ?_;refine rl0 (gn rfl) rfl rfl (step_as rfl rfl) trivial ?_;refine runsL_nil ?_;refine runs_region ?_;refine rl0 (gn rfl) rfl rfl (step_mv rfl rfl) trivial ?_;refine rl0 (gn rfl) rfl rfl (step_add rfl (ev_mk rfl) (ev_mk rfl) (w64 (by omega))) trivial ?_;refine rl0 (gn rfl) rfl rfl (step_as rfl rfl) trivial ?_;refine runsL_nil ?_;have hq0_ : ((secsV (cutT b a i)) ++ [((mkS ((a : Int) + (i : Int) + 1) 1 (((chk b i).length : Nat) : Int) (chk b i)).map bV)]) = (secsV (cutT b a (i + 1))) := by exact cut_nx (by unfold flS; rw [if_pos (show i = 0 by omega), if_neg (show ¬ i + 1 = nS b by omega)]; rfl) (by omega) rfl
          refine ⟨_, _, ?_, sle ?_ (Nat.le_refl _), (i + 1), _, _, rfl, rfl, by omega, (fun k_ hk_ => t_24), t_130, by omega⟩
          · omega
          · exact t_3
      · skip
        refine runsL_nil ?_;refine runs_cond false (ev_mk rfl) (fun h_ => nomatch h_) (fun _ => ?_);refine runs_skip ?_;refine runs_seq ?_;refine runs_seq ?_;refine runs_region ?_;refine rl0 (gn rfl) rfl rfl (step_mv rfl rfl) trivial ?_;refine rl0 (gn rfl) rfl rfl (step_mv rfl rfl) trivial ?_;refine rl0 (gn rfl) rfl rfl (step_len (m := (b.drop (54 * i)).length) rfl rfl (ev_mk rfl) (.inl ⟨⟨_, Try.underlying22⟩, .inl ⟨_, _, .inl rfl, List.length_map _⟩⟩)) trivial ?_;refine rl_eql (gn rfl) rfl rfl rfl rfl rfl (fun h3 => ?_) (fun h3 => ?_)
        · skip
          refine runsL_nil ?_;refine runs_cond true (ev_mk rfl) (fun _ => ?_) (fun h_ => nomatch h_);refine runs_region ?_;refine rl0 (gn rfl) rfl rfl (step_index_arr rfl (ev_mk rfl) (ev_mk rfl) Try.underlying47 F.sz5 (by omega) (by omega)) trivial ?_;refine' rl0 (gn rfl) rfl rfl (step_load_one (v := .sc (.int .u8 0)) rfl (ev_mk rfl) F.one5 ?hv) ⟨?hb, trivial⟩ ?_
          case hb => exact t_4
          case hv => exact mkS_b8
          refine rl0 (gn rfl) rfl rfl (step_bits (r := 2) rfl (ev_mk rfl) (ev_mk rfl) (.inr (.inl rfl)) (or_2 (by omega))) trivial ?_;refine rl0 (gn rfl) rfl rfl (step_index_arr rfl (ev_mk rfl) (ev_mk rfl) Try.underlying47 F.sz5 (by omega) (by omega)) trivial ?_;refine' rls (gn rfl) rfl (step_store1 (cs' := ((mkS ((a : Int) + (i : Int) + 1) 2 0 []).map bV)) rfl rfl rfl rfl F.one5 rfl rfl ?hl ?hc) ⟨?hb, trivial⟩ ?hk ?_
          case hb => exact t_4
          case hl => exact t_136
          case hc => exact mkS_s8
          case hk => omega
          refine runsL_nil ?_;refine runs_seq ?_;refine runs_region ?_;refine rl0 (gn rfl) rfl rfl (step_mv rfl rfl) trivial ?_;refine rl0 (gn rfl) rfl rfl (step_conv_id rfl rfl Try.underlying3 Try.underlying5 (wu8 (by omega))) trivial ?_;refine rl0 (gn rfl) rfl rfl (step_index_arr rfl (ev_mk rfl) (ev_mk rfl) Try.underlying47 F.sz5 (by omega) (by omega)) trivial ?_;refine' rls (gn rfl) rfl (step_store1 (cs' := ((mkS ((a : Int) + (i : Int) + 1) 2 (((chk b i).length : Nat) : Int) []).map bV)) rfl rfl rfl rfl F.one5 rfl rfl ?hl ?hc) ⟨?hb, trivial⟩ ?hk ?_
          case hb => exact t_4
          case hl => exact t_136
          case hc => exact mkS_s9
          case hk => omega
          refine runsL_nil ?_;refine runs_seq ?_;refine runs_draw (by kernel_rfl) (by kernel_rfl) (by kernel_rfl) ?_;refine dl0 (gn rfl) rfl rfl (step_sl_arr (a := 10) (h := 64) (m := 64) (q' := 10) (n' := 54) (c' := 54) rfl (ev_mk rfl) Try.underlying47 F.sz5 (bndLo_nat (a := 10) rfl t_20) bndHi_none bndHi_none (fun h_ => t_106) (by omega) (by omega) (by omega) t_59 t_73 t_73) trivial ?_;refine dl0 (gn rfl) rfl rfl (step_mv rfl rfl) trivial ?_;refine dl0 (gn rfl) rfl rfl (step_mv rfl rfl) trivial ?_;refine dl0 (gn rfl) rfl rfl (step_slice (ys := bytesV (chk b i)) (l := 0) (h := (chk b i).length) rfl (ev_mk rfl) (.inl rfl) Try.underlying22 F.sz5 bndLo_none (bndHi_nat (a := (chk b i).length) rfl t_20) t_53 t_81 (cut_tk)) trivial ?_;refine' dl1 (gn rfl) rfl rfl (step_copy (m := (chk b i).length) (cs' := ((mkS ((a : Int) + (i : Int) + 1) 2 (((chk b i).length : Nat) : Int) (chk b i)).map bV)) rfl rfl Try.underlying22 F.sz5 (ev_mk rfl) (ev_mk rfl) (gives_sl (.inl rfl)) ?hmn ?hl ?hcs) ⟨?hb, trivial⟩ (by omega) ?_
          case hb => exact t_4
          case hmn => exact t_115
          case hl => exact t_136
          case hcs => exact t_74
          refine dlnil ?_ ?_
          · exact t_12
          refine runs_seq ?_;refine runs_region ?_;refine rl0 (gn rfl) rfl rfl (step_mv rfl rfl) trivial ?_;refine' rl0 (gn rfl) rfl rfl (step_load_all rfl rfl F.agg47 ?hl) ⟨?hb, trivial⟩ ?_
          case hb => exact t_4
          case hl => exact t_54
          refine rl0 (gn rfl) rfl rfl (step_lit rfl Try.underlying27 F.sz47 F.zero47 t_33 t_139 (by decide) rfl rfl t_99 rfl) trivial ?_;refine' rl1 (gn rfl) rfl rfl (step_append_own rfl rfl rfl Try.underlying27 ⟨_, Try.underlying27, fun k_ => t_49⟩ F.el47 (ev_mk rfl) (ev_mk rfl) (gives_sl (.inr (.inl rfl))) ?hg) ⟨?hb, trivial⟩ (by omega) ?_
          case hb => exact t_4
          case hg => exact t_68
          refine rl0 (gn rfl) rfl rfl (step_as rfl rfl) trivial ?_;refine runsL_nil ?_;refine runs_region ?_;refine rl0 (gn rfl) rfl rfl (step_mv rfl rfl) trivial ?_;refine rl0 (gn rfl) rfl rfl (step_mv rfl rfl) trivial ?_;refine rl0 (gn rfl) rfl rfl (step_slice (ys := bytesV (b.drop (54 * (i + 1)))) (l := (chk b i).length) (h := (bytesV (b.drop (54 * i))).length) rfl (ev_mk rfl) (.inl rfl) Try.underlying22 F.sz5 (bndLo_nat (a := (chk b i).length) rfl t_20) bndHi_none t_81 (by omega) (by rw [List.take_length]; exact cut_dr)) trivial ?_;refine rl0 (gn rfl) rfl rfl (step_as rfl rfl) trivial ?_;refine runsL_nil ?_;refine runs_region ?_;refine rl0 (gn rfl) rfl rfl (step_mv rfl rfl) trivial ?_;refine rl0 (gn rfl) rfl rfl (step_add rfl (ev_mk rfl) (ev_mk rfl) (w64 (by omega))) trivial ?_;refine rl0 (gn rfl) rfl rfl (step_as rfl rfl) trivial ?_;refine runsL_nil ?_;have hq0_ : ((secsV (cutT b a i)) ++ [((mkS ((a : Int) + (i : Int) + 1) 2 (((chk b i).length : Nat) : Int) (chk b i)).map bV)]) = (secsV (cutT b a (i + 1))) := by exact cut_nx (by unfold flS; rw [if_neg (show ¬ i = 0 by omega), if_pos (show i + 1 = nS b by omega)]; rfl) (by omega) rfl
          refine ⟨_, _, ?_, sle ?_ (Nat.le_refl _), (i + 1), _, _, rfl, rfl, by omega, (fun k_ hk_ => t_24), t_130, by omega⟩
          · omega
          · exact t_3
        · skip
          refine runsL_nil ?_;refine runs_cond false (ev_mk rfl) (fun h_ => nomatch h_) (fun _ => ?_);refine runs_skip ?_;refine runs_seq ?_;refine runs_region ?_;refine rl0 (gn rfl) rfl rfl (step_mv rfl rfl) trivial ?_;refine rl0 (gn rfl) rfl rfl (step_conv_id rfl rfl Try.underlying3 Try.underlying5 (wu8 (by omega))) trivial ?_;refine rl0 (gn rfl) rfl rfl (step_index_arr rfl (ev_mk rfl) (ev_mk rfl) Try.underlying47 F.sz5 (by omega) (by omega)) trivial ?_;refine' rls (gn rfl) rfl (step_store1 (cs' := ((mkS ((a : Int) + (i : Int) + 1) 0 (((chk b i).length : Nat) : Int) []).map bV)) rfl rfl rfl rfl F.one5 rfl rfl ?hl ?hc) ⟨?hb, trivial⟩ ?hk ?_
          case hb => exact t_4
          case hl => exact t_136
          case hc => exact mkS_s9
          case hk => omega
          refine runsL_nil ?_;refine runs_seq ?_;refine runs_draw (by kernel_rfl) (by kernel_rfl) (by kernel_rfl) ?_;refine dl0 (gn rfl) rfl rfl (step_sl_arr (a := 10) (h := 64) (m := 64) (q' := 10) (n' := 54) (c' := 54) rfl (ev_mk rfl) Try.underlying47 F.sz5 (bndLo_nat (a := 10) rfl t_20) bndHi_none bndHi_none (fun h_ => t_106) (by omega) (by omega) (by omega) t_59 t_73 t_73) trivial ?_;refine dl0 (gn rfl) rfl rfl (step_mv rfl rfl) trivial ?_;refine dl0 (gn rfl) rfl rfl (step_mv rfl rfl) trivial ?_;refine dl0 (gn rfl) rfl rfl (step_slice (ys := bytesV (chk b i)) (l := 0) (h := (chk b i).length) rfl (ev_mk rfl) (.inl rfl) Try.underlying22 F.sz5 bndLo_none (bndHi_nat (a := (chk b i).length) rfl t_20) t_53 t_81 (cut_tk)) trivial ?_;refine' dl1 (gn rfl) rfl rfl (step_copy (m := (chk b i).length) (cs' := ((mkS ((a : Int) + (i : Int) + 1) 0 (((chk b i).length : Nat) : Int) (chk b i)).map bV)) rfl rfl Try.underlying22 F.sz5 (ev_mk rfl) (ev_mk rfl) (gives_sl (.inl rfl)) ?hmn ?hl ?hcs) ⟨?hb, trivial⟩ (by omega) ?_
          case hb => exact t_4
          case hmn => exact t_115
          case hl => exact t_136
          case hcs => exact t_74
          refine dlnil ?_ ?_
          · exact t_12
          refine runs_seq ?_;refine runs_region ?_;refine rl0 (gn rfl) rfl rfl (step_mv rfl rfl) trivial ?_;refine' rl0 (gn rfl) rfl rfl (step_load_all rfl rfl F.agg47 ?hl) ⟨?hb, trivial⟩ ?_
          case hb => exact t_4
          case hl => exact t_54
          refine rl0 (gn rfl) rfl rfl (step_lit rfl Try.underlying27 F.sz47 F.zero47 t_33 t_139 (by decide) rfl rfl t_99 rfl) trivial ?_;refine' rl1 (gn rfl) rfl rfl (step_append_own rfl rfl rfl Try.underlying27 ⟨_, Try.underlying27, fun k_ => t_49⟩ F.el47 (ev_mk rfl) (ev_mk rfl) (gives_sl (.inr (.inl rfl))) ?hg) ⟨?hb, trivial⟩ (by omega) ?_
          case hb => exact t_4
          case hg => exact t_68
          refine rl0 (gn rfl) rfl rfl (step_as rfl rfl) trivial ?_;refine runsL_nil ?_;refine runs_region ?_;refine rl0 (gn rfl) rfl rfl (step_mv rfl rfl) trivial ?_;refine rl0 (gn rfl) rfl rfl (step_mv rfl rfl) trivial ?_;refine rl0 (gn rfl) rfl rfl (step_slice (ys := bytesV (b.drop (54 * (i + 1)))) (l := (chk b i).length) (h := (bytesV (b.drop (54 * i))).length) rfl (ev_mk rfl) (.inl rfl) Try.underlying22 F.sz5 (bndLo_nat (a := (chk b i).length) rfl t_20) bndHi_none t_81 (by omega) (by rw [List.take_length]; exact cut_dr)) trivial ?_;refine rl0 (gn rfl) rfl rfl (step_as rfl rfl) trivial ?_;refine runsL_nil ?_;refine runs_region ?_;refine rl0 (gn rfl) rfl rfl (step_mv rfl rfl) trivial ?_;refine rl0 (gn rfl) rfl rfl (step_add rfl (ev_mk rfl) (ev_mk rfl) (w64 (by omega))) trivial ?_;refine rl0 (gn rfl) rfl rfl (step_as rfl rfl) trivial ?_;refine runsL_nil ?_;have hq0_ : ((secsV (cutT b a i)) ++ [((mkS ((a : Int) + (i : Int) + 1) 0 (((chk b i).length : Nat) : Int) (chk b i)).map bV)]) = (secsV (cutT b a (i + 1))) := by exact cut_nx (by unfold flS; rw [if_neg (show ¬ i = 0 by omega), if_neg (show ¬ i + 1 = nS b by omega)]; rfl) (by omega) rfl
          refine ⟨_, _, ?_, sle ?_ (Nat.le_refl _), (i + 1), _, _, rfl, rfl, by omega, (fun k_ hk_ => t_24), t_130, by omega⟩
          · omega
          · exact t_3
    · skip
      refine runsL_nil ?_;refine runs_cond false (ev_mk rfl) (fun h_ => nomatch h_) (fun _ => ?_);refine runs_exit ?_;refine runs_seq ?_;refine runs_region ?_;refine rl0 (gn rfl) rfl rfl (step_mv rfl rfl) trivial ?_;refine rl0 (gn rfl) rfl rfl (step_as rfl rfl) trivial ?_;refine runsL_nil ?_;refine runs_ret ?_;have hie_ : i = nS b := by omega
      rw [show cutB b a = cutT b a i from by rw [hie_]; rfl]
      refine ⟨t_17, fin_mkg (rest rfl res0) ?_ ?_ ?_ ?_ ?_⟩
      · exact t_2
      · exact t_1
      · exact t_147
      · exact t_45
      · exact t_1
end Go.Proofs.Ytdmkhpnjjpeeaaa
