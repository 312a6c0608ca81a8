/- Walks by the logic of values. -/
import Derived.Test.YthpkhecialkmmaaKeVmT
import Derived.Test.YthpkhecialkmmaaKeVmP
import Derived.Test.YthpkhecialkmmaaKeVmV
import Derived.Test.YthpkhecialkmmaaKeVmO
namespace Go.Proofs.Ythpkhecialkmmaa
open Go.Vm
set_option linter.unusedVariables false
set_option linter.unusedSimpArgs false
abbrev rcC (a b c d : Int) : List V := [.sc (.int .u32 a), .sc (.int .u32 b), .sc (.int .u32 c), .sc (.int .u32 d)]
def emF (a b c d : Int) : Bool := decide (a > c ∨ b > d)
def rowT (y x : Int) : Nat → List Int
  | 0 => []
  | k + 1 => (y * 8 + x) :: rowT y (x + 1) k
def tilT (x : Int) (w : Nat) (y : Int) : Nat → List Int
  | 0 => []
  | k + 1 => rowT y x w ++ tilT x w (y + 1) k
def touL (a b c d : Int) : List Int := if emF a b c d = true then [] else tilT (a / 536870912) (c / 536870912 + 1 - a / 536870912).toNat (b / 536870912) (d / 536870912 + 1 - b / 536870912).toNat
abbrev enT (t : Int) : List V := [.sc (.int .i64 t)]
theorem row1 {y x q : Int} (h : x ≤ q) : rowT y x (q + 1 - x).toNat = (y * 8 + x) :: rowT y (x + 1) (q + 1 - (x + 1)).toNat := by
  rw [show (q + 1 - x).toNat = (q + 1 - (x + 1)).toNat + 1 by omega]; rfl
theorem row0 {y x q : Int} (h : ¬ x ≤ q) : rowT y x (q + 1 - x).toNat = [] := by rw [show (q + 1 - x).toNat = 0 by omega]; rfl
theorem til1 {y x q : Int} {w : Nat} (h : y ≤ q) : tilT x w y (q + 1 - y).toNat = rowT y x w ++ tilT x w (y + 1) (q + 1 - (y + 1)).toNat := by
  rw [show (q + 1 - y).toNat = (q + 1 - (y + 1)).toNat + 1 by omega]; rfl
theorem til0 {y x q : Int} {w : Nat} (h : ¬ y ≤ q) : tilT x w y (q + 1 - y).toNat = [] := by rw [show (q + 1 - y).toNat = 0 by omega]; rfl
theorem sh29 {x : Int} : x.fdiv (2 ^ min (Int.toNat 29) Go.IntKind.u32.bits) = x / 536870912 := Int.fdiv_eq_ediv_of_nonneg _ (by decide)
theorem row_add {y x q : Int} {j : Nat} {xs : List (List V)} {r : List Int} (h : xs.drop j = (rowT y x (q + 1 - x).toNat ++ r).map enT) (hx : x ≤ q) : xs[j]? = some (enT (y * 8 + x)) ∧ xs.drop (j + 1) = (rowT y (x + 1) (q + 1 - (x + 1)).toNat ++ r).map enT ∧ j < xs.length := by
  rw [row1 hx] at h; exact drop_cons h
set_option maxRecDepth 100000 in
set_option maxHeartbeats 4000000 in
theorem emp_c {a b c d : Int} : Does Try.prog 39 [.agg (rcC a b c d)] [] [] (.sc (.bool (emF a b c d))) := by
  refine does_mkg 40 Try.func39 rfl rfl rfl (fun n B bx hd hpre hup hvs hbx hgx => ?_)
  refine runs_seq ?_
  refine runs_region ?_
  refine rl1 (gn rfl) rfl rfl (step_box_agg (k := n + 0) rfl rfl) ⟨by repeat (first | exact uE | refine uN (by omega) ?_ | assumption | exact hd _ (by omega) | fail), trivial⟩ (by omega) ?_
  refine rl0 (gn rfl) rfl rfl (step_as rfl rfl) trivial ?_
  refine runsL_nil ?_
  refine runs_seq ?_
  refine runs_region ?_
  refine rl0 (gn rfl) rfl rfl (step_fieldAddr (off := 0) rfl (ev_mk rfl) Try.underlying25 rfl F.sz23 rfl) trivial ?_
  refine' rl0 (gn rfl) rfl rfl (step_load_one rfl (ev_mk rfl) F.one23 ?hv) ⟨?hb, trivial⟩ ?_
  case hb => repeat (first | exact uE | refine uN (by omega) ?_ | assumption | exact hd _ (by omega) | fail)
  case hv => rfl
  refine rl0 (gn rfl) rfl rfl (step_fieldAddr (off := 2) rfl (ev_mk rfl) Try.underlying25 rfl F.sz23 rfl) trivial ?_
  refine' rl0 (gn rfl) rfl rfl (step_load_one rfl (ev_mk rfl) F.one23 ?hv) ⟨?hb, trivial⟩ ?_
  case hb => repeat (first | exact uE | refine uN (by omega) ?_ | assumption | exact hd _ (by omega) | fail)
  case hv => rfl
  refine rl_gtr (gn rfl) rfl rfl rfl rfl rfl (fun h1 => ?_) (fun h1 => ?_)
  · skip
    refine rl0 (gn rfl) rfl rfl (step_mv rfl rfl) trivial ?_
    refine rlk rfl rfl rfl rfl rfl (ngb rfl rfl) rfl rfl ?_
    refine rlk rfl rfl rfl rfl rfl (ngb rfl rfl) rfl rfl ?_
    refine rlk rfl rfl rfl rfl rfl (ngb rfl rfl) rfl rfl ?_
    refine rlk rfl rfl rfl rfl rfl (ngb rfl rfl) rfl rfl ?_
    refine rlk rfl rfl rfl rfl rfl (ngb rfl rfl) rfl rfl ?_
    refine rl0 (gn rfl) rfl rfl (step_pick rfl (ev_mk rfl) (ev_mk rfl)) trivial ?_
    refine rl0 (gn rfl) rfl rfl (step_as rfl rfl) trivial ?_
    refine runsL_nil ?_
    refine runs_ret ?_
    first | (have hem_ : true = emF a b c d := (decide_eq_true (by omega)).symm) | (have hem_ : false = emF a b c d := (decide_eq_false (by omega)).symm)
    refine ⟨by first | exact .inr rfl | exact .inl rfl, fin_mkg (rest rfl res0) ?_ ?_ ?_ ?_ ?_⟩
    · (repeat' (first | exact VLe.refl _ | exact VLe.own_sl _ _ _ | exact VLe.fl_sl _ _ | exact VLe.nil_sl _ | exact VLe.nil_fl _ | exact VLes.refl _ | exact .nil | refine VLe.tup ?_ | refine VLe.agg ?_ | refine .cons ?_ ?_ | (rw [Int.natCast_add]; exact VLe.refl _) | exact vle_int (by omega) | exact vle_bool (by first | rfl | assumption | (simp_all; done) | fail) | fail))
    · repeat (first | exact trivial | assumption | omega | (refine bdR_map (fun _ => ?_)) | (refine bdL_map (fun _ => ?_)) | refine ⟨?_, ?_⟩ | fail)
    · intro k_ hk_; exact ble (by repeat (first | exact rfl | refine uN (by omega) ?_ | assumption | fail))
    · intro p hp; cases hp
    · repeat (first | exact trivial | assumption | omega | (refine bdR_map (fun _ => ?_)) | (refine bdL_map (fun _ => ?_)) | refine ⟨?_, ?_⟩ | fail)
  · skip
    refine rl0 (gn rfl) rfl rfl (step_mv rfl rfl) trivial ?_
    refine rl0 (gy rfl rfl rfl rfl rfl rfl) rfl rfl (step_fieldAddr (off := 1) rfl (ev_mk rfl) Try.underlying25 rfl F.sz23 rfl) trivial ?_
    refine' rl0 (gy rfl rfl rfl rfl rfl rfl) rfl rfl (step_load_one rfl (ev_mk rfl) F.one23 ?hv) ⟨?hb, trivial⟩ ?_
    case hb => repeat (first | exact uE | refine uN (by omega) ?_ | assumption | exact hd _ (by omega) | fail)
    case hv => rfl
    refine rl0 (gy rfl rfl rfl rfl rfl rfl) rfl rfl (step_fieldAddr (off := 3) rfl (ev_mk rfl) Try.underlying25 rfl F.sz23 rfl) trivial ?_
    refine' rl0 (gy rfl rfl rfl rfl rfl rfl) rfl rfl (step_load_one rfl (ev_mk rfl) F.one23 ?hv) ⟨?hb, trivial⟩ ?_
    case hb => repeat (first | exact uE | refine uN (by omega) ?_ | assumption | exact hd _ (by omega) | fail)
    case hv => rfl
    refine rl_gtr (gy rfl rfl rfl rfl rfl rfl) rfl rfl rfl rfl rfl (fun h2 => ?_) (fun h2 => ?_)
    · skip
      refine rl0 (gn rfl) rfl rfl (step_pick rfl (ev_mk rfl) (ev_mk rfl)) trivial ?_
      refine rl0 (gn rfl) rfl rfl (step_as rfl rfl) trivial ?_
      refine runsL_nil ?_
      refine runs_ret ?_
      first | (have hem_ : true = emF a b c d := (decide_eq_true (by omega)).symm) | (have hem_ : false = emF a b c d := (decide_eq_false (by omega)).symm)
      refine ⟨by first | exact .inr rfl | exact .inl rfl, fin_mkg (rest rfl res0) ?_ ?_ ?_ ?_ ?_⟩
      · (repeat' (first | exact VLe.refl _ | exact VLe.own_sl _ _ _ | exact VLe.fl_sl _ _ | exact VLe.nil_sl _ | exact VLe.nil_fl _ | exact VLes.refl _ | exact .nil | refine VLe.tup ?_ | refine VLe.agg ?_ | refine .cons ?_ ?_ | (rw [Int.natCast_add]; exact VLe.refl _) | exact vle_int (by omega) | exact vle_bool (by first | rfl | assumption | (simp_all; done) | fail) | fail))
      · repeat (first | exact trivial | assumption | omega | (refine bdR_map (fun _ => ?_)) | (refine bdL_map (fun _ => ?_)) | refine ⟨?_, ?_⟩ | fail)
      · intro k_ hk_; exact ble (by repeat (first | exact rfl | refine uN (by omega) ?_ | assumption | fail))
      · intro p hp; cases hp
      · repeat (first | exact trivial | assumption | omega | (refine bdR_map (fun _ => ?_)) | (refine bdL_map (fun _ => ?_)) | refine ⟨?_, ?_⟩ | fail)
    · skip
      refine rl0 (gn rfl) rfl rfl (step_pick rfl (ev_mk rfl) (ev_mk rfl)) trivial ?_
      refine rl0 (gn rfl) rfl rfl (step_as rfl rfl) trivial ?_
      refine runsL_nil ?_
      refine runs_ret ?_
      first | (have hem_ : true = emF a b c d := (decide_eq_true (by omega)).symm) | (have hem_ : false = emF a b c d := (decide_eq_false (by omega)).symm)
      refine ⟨by first | exact .inr rfl | exact .inl rfl, fin_mkg (rest rfl res0) ?_ ?_ ?_ ?_ ?_⟩
      · (repeat' (first | exact VLe.refl _ | exact VLe.own_sl _ _ _ | exact VLe.fl_sl _ _ | exact VLe.nil_sl _ | exact VLe.nil_fl _ | exact VLes.refl _ | exact .nil | refine VLe.tup ?_ | refine VLe.agg ?_ | refine .cons ?_ ?_ | (rw [Int.natCast_add]; exact VLe.refl _) | exact vle_int (by omega) | exact vle_bool (by first | rfl | assumption | (simp_all; done) | fail) | fail))
      · repeat (first | exact trivial | assumption | omega | (refine bdR_map (fun _ => ?_)) | (refine bdL_map (fun _ => ?_)) | refine ⟨?_, ?_⟩ | fail)
      · intro k_ hk_; exact ble (by repeat (first | exact rfl | refine uN (by omega) ?_ | assumption | fail))
      · intro p hp; cases hp
      · repeat (first | exact trivial | assumption | omega | (refine bdR_map (fun _ => ?_)) | (refine bdL_map (fun _ => ?_)) | refine ⟨?_, ?_⟩ | fail)
set_option maxRecDepth 100000 in
set_option maxHeartbeats 4000000 in
theorem tou_i {kk : Nat} {a b c d : Int} (h0 : 0 ≤ a ∧ a ≤ 4294967295) (h1 : 0 ≤ b ∧ b ≤ 4294967295) (h2 : 0 ≤ c ∧ c ≤ 4294967295) (h3 : 0 ≤ d ∧ d ≤ 4294967295) : DoesL Try.prog 38 [.ref kk 0] ((touL a b c d).map enT) [(kk, .cells (rcC a b c d), fun m_ b_ => .cells (rcC a b c d))] [] := by
  refine doesL_mk 40 Try.func38 rfl rfl rfl (⟨trivial, trivial⟩) (fun ll => rfl) (fun Xb ll n0 D σ m brk h1m h2m h3m hDE hY n B bx hn0 hO hXb hd hDlt hf99 hE hPr hOt hcb hbb hsb => ?_)
  have hDn : ∀ k, n ≤ k → D k = false := fun k hk => by cases h_ : D k with | false => rfl | true => exact absurd (hDlt k h_) (by omega)
  have hJ_ := OkJ.zero (brk := brk) (m := m) h2m
  have hk0 : kk < n := hE.1.1
  have hz0 : D kk = false := hE.1.2.1
  have hp0 : bx kk = .cells (rcC a b c d) := hE.1.2.2
  refine runs_seq ?_
  refine runs_seq ?_
  refine runs_region ?_
  refine' rl0 (gn rfl) rfl rfl (step_load_all rfl rfl F.agg25 ?hl) ⟨?hb, trivial⟩ ?_
  case hb => repeat (first | exact uE | refine uN (by omega) ?_ | assumption | refine ovN (by first | assumption | exact hDn _ (by omega)) ?_ | exact hd _ (by omega) | fail)
  case hl => first | rfl | (simp; done) | (first | (simp; done) | (simp; omega) | omega)
  refine rl0 (gn rfl) rfl rfl (step_callc rfl Try.func39 rfl rfl rfl (emp_c) (by repeat (first | exact .nil | refine .cons ?_ ?_ | exact VLe.refl _ | exact VLe.own_sl _ _ _ | exact VLe.fl_sl _ _ | exact VLe.nil_sl _ | exact VLe.nil_fl _ | refine VLe.agg ?_))) trivial ?_
  refine runsL_nil ?_
  refine runs_cond _ (ev_mk rfl) (fun h1 => ?_) (fun h1 => ?_)
  · skip
    have hJm_ := OkJ.fin hJ_ h1m (j := 0) (by unfold touL; rw [if_pos (by assumption)]; exact Nat.le_refl _)
    refine runs_ret ?_
    refine ⟨by first | exact .inr rfl | exact .inl rfl, fun k_ hk_ => ?_⟩
    cases hD_ : D k_ with
    | true => obtain ⟨ee0_, _⟩ := hDE k_ hD_; refine ble (Eq.trans ?_ (ovY hD_ rfl).symm); repeat (first | exact ovYJ hD_ (by omega) | refine uN (by first | assumption | omega) ?_ | exact (hf99 _ (by omega)).trans (ovYJ hD_ (by omega)) | fail)
    | false => refine bl_ov hD_ ?_; simp only [eM, updL, List.map_cons, List.map_nil]; by_cases e0_ : k_ = kk; (focus subst e0_; refine bl_eq ?_; first | (refine ble ?_; (repeat (first | exact uE | assumption | refine uN (by omega) ?_ | refine ovN (by first | assumption | exact hDn _ (by omega)) ?_ | fail)); done) | (refine' blec ?hb ?hl; (case hb => repeat (first | exact uE | assumption | refine uN (by omega) ?_ | refine ovN (by first | assumption | exact hDn _ (by omega)) ?_ | fail)); (case hl => first | exact VLes.refl _ | ((repeat' (first | exact VLe.refl _ | exact VLe.own_sl _ _ _ | exact VLe.fl_sl _ _ | exact VLe.nil_sl _ | exact VLe.nil_fl _ | exact VLes.refl _ | exact .nil | refine VLe.tup ?_ | refine VLe.agg ?_ | refine .cons ?_ ?_ | (rw [Int.natCast_add]; exact VLe.refl _) | exact vle_int (by omega) | exact vle_bool (by first | rfl | assumption | (simp_all; done) | fail) | fail)); done)))); refine bl_ne e0_ ?_; exact ble (by repeat (first | refine uN (by first | assumption | omega) ?_ | refine ovN hD_ ?_ | exact rfl | fail))
  · skip
    have hdr0_ : ((touL a b c d).map enT).drop 0 = (tilT (a / 536870912) (c / 536870912 + 1 - a / 536870912).toNat (b / 536870912) (d / 536870912 + 1 - b / 536870912).toNat).map enT := by unfold touL; rw [if_neg (by simp only [Bool.not_eq_true]; assumption)]; rfl
    refine runs_skip ?_
    refine runs_seq ?_
    refine runs_region ?_
    refine rl0 (gn rfl) rfl rfl (step_fieldAddr (off := 1) rfl (ev_mk rfl) Try.underlying25 rfl F.sz23 rfl) trivial ?_
    refine' rl0 (gn rfl) rfl rfl (step_load_one rfl (ev_mk rfl) F.one23 ?hv) ⟨?hb, trivial⟩ ?_
    case hb => repeat (first | exact uE | refine uN (by omega) ?_ | assumption | refine ovN (by first | assumption | exact hDn _ (by omega)) ?_ | exact hd _ (by omega) | fail)
    case hv => rfl
    refine rl0 (gn rfl) rfl rfl (step_shr (r := b / 536870912) rfl (ev_mk rfl) (ev_mk rfl) (by omega) (sh29)) trivial ?_
    refine rl0 (gn rfl) rfl rfl (step_as rfl rfl) trivial ?_
    refine runsL_nil ?_
    refine runs_block ?_
    refine runs_loop (fun (ri_ : Nat) (st_ : Go.Vm.S) => ∃ (y : Int) (j : Nat) (m0 : Nat) (b0 : Nat → Box), (st_ = ⟨mk [(0, .sc (.func (.yield ll) #[] #[])), (1, .ref kk 0), (3, .sc (.int .u32 y))], m0, b0⟩) ∧ (ri_ = 1 + (10 - y).toNat) ∧ (n + 0 ≤ m0) ∧ (∀ k_, k_ < n → b0 k_ = ov D (σ (j)) bx k_) ∧ (b0 kk = .cells [.sc (.int .u32 a), .sc (.int .u32 b), .sc (.int .u32 c), .sc (.int .u32 d)]) ∧ (0 ≤ y ∧ y ≤ 8) ∧ (OkJ brk m j) ∧ (((touL a b c d).map enT).drop j = (tilT (a / 536870912) (c / 536870912 + 1 - a / 536870912).toNat y (d / 536870912 + 1 - y).toNat).map enT)) (1 + (10 - (b / 536870912)).toNat) ⟨_, sle ?_ (Nat.le_refl _), (b / 536870912), 0, _, _, rfl, rfl, ?_⟩ ?_
    · (repeat' (first | exact trivial | refine ⟨⟨_, rfl, ?_⟩, ?_⟩ | fail)); all_goals (repeat' (first | exact VLe.refl _ | exact VLe.own_sl _ _ _ | exact VLe.fl_sl _ _ | exact VLe.nil_sl _ | exact VLe.nil_fl _ | exact VLes.refl _ | exact .nil | refine VLe.tup ?_ | refine VLe.agg ?_ | refine .cons ?_ ?_ | (rw [Int.natCast_add]; exact VLe.refl _) | exact vle_int (by omega) | exact vle_bool (by first | rfl | assumption | (simp_all; done) | fail) | fail))
    · exact ⟨by omega, (fun k_ hk_ => ovT (fun hD_ => by repeat (first | exact ovYJ hD_ (by omega) | refine uN (by first | assumption | omega) ?_ | exact (hf99 _ (by omega)).trans (ovYJ hD_ (by omega)) | fail)) (fun hD_ => by repeat (first | refine uN (by first | assumption | omega) ?_ | refine ovN hD_ ?_ | exact rfl | fail))), by first | ((repeat (first | exact uE | assumption | refine uN (by omega) ?_ | refine ovN (by first | assumption | exact hDn _ (by omega)) ?_ | fail)); done) | exact tl_eq (by repeat (first | exact uE | assumption | refine uN (by omega) ?_ | refine ovN (by first | assumption | exact hDn _ (by omega)) ?_ | fail)) (by first | rfl | (simp [bytesV, beB_len]; done) | (simp [bytesV, beB_len]; omega) | omega), by omega, hJ_, hdr0_⟩
    · rintro _ _ ⟨y, j, m0, b0, rfl, rfl, hm0, hf0, hB0_0, hF0_0, hF0_1, hF0_2⟩
      refine runs_know (fun hd0 => ?_)
      refine runs_bump 20 ?_
      simp only at hd0
      refine runs_seq ?_
      refine runs_seq ?_
      refine runs_region ?_
      refine rl0 (gn rfl) rfl rfl (step_mv rfl rfl) trivial ?_
      refine rl0 (gn rfl) rfl rfl (step_fieldAddr (off := 3) rfl (ev_mk rfl) Try.underlying25 rfl F.sz23 rfl) trivial ?_
      refine' rl0 (gn rfl) rfl rfl (step_load_one rfl (ev_mk rfl) F.one23 ?hv) ⟨?hb, trivial⟩ ?_
      case hb => repeat (first | exact uE | refine uN (by omega) ?_ | assumption | refine ovN (by first | assumption | exact hDn _ (by omega)) ?_ | exact hd _ (by omega) | exact hd0 _ (by omega) | fail)
      case hv => rfl
      refine rl0 (gn rfl) rfl rfl (step_shr (r := d / 536870912) rfl (ev_mk rfl) (ev_mk rfl) (by omega) (sh29)) trivial ?_
      refine rl_leq (gn rfl) rfl rfl rfl rfl rfl (fun h2 => ?_) (fun h2 => ?_)
      · skip
        refine runsL_nil ?_
        refine runs_cond true (ev_mk rfl) (fun _ => ?_) (fun h_ => nomatch h_)
        refine runs_skip ?_
        refine runs_seq ?_
        refine runs_block ?_
        refine runs_seq ?_
        refine runs_region ?_
        refine rl0 (gn rfl) rfl rfl (step_fieldAddr (off := 0) rfl (ev_mk rfl) Try.underlying25 rfl F.sz23 rfl) trivial ?_
        refine' rl0 (gn rfl) rfl rfl (step_load_one rfl (ev_mk rfl) F.one23 ?hv) ⟨?hb, trivial⟩ ?_
        case hb => repeat (first | exact uE | refine uN (by omega) ?_ | assumption | refine ovN (by first | assumption | exact hDn _ (by omega)) ?_ | exact hd _ (by omega) | exact hd0 _ (by omega) | fail)
        case hv => rfl
        refine rl0 (gn rfl) rfl rfl (step_shr (r := a / 536870912) rfl (ev_mk rfl) (ev_mk rfl) (by omega) (sh29)) trivial ?_
        refine rl0 (gn rfl) rfl rfl (step_as rfl rfl) trivial ?_
        refine runsL_nil ?_
        refine runs_block ?_
        refine runs_loop (fun (ri_ : Nat) (st_ : Go.Vm.S) => ∃ (x : Int) (j : Nat) (m1 : Nat) (b1 : Nat → Box), (st_ = ⟨mk [(0, .sc (.func (.yield ll) #[] #[])), (1, .ref kk 0), (3, .sc (.int .u32 y)), (4, .sc (.int .u32 x)), (10, .sc (.int .u32 y)), (11, .ref kk 3), (12, .sc (.int .u32 d)), (13, .sc (.int .u32 (d / 536870912))), (14, .sc (.bool true)), (17, .ref kk 0), (18, .sc (.int .u32 a)), (19, .sc (.int .u32 (a / 536870912)))], m1, b1⟩) ∧ (ri_ = 1 + (10 - x).toNat) ∧ (m0 + 0 ≤ m1) ∧ (∀ k_, k_ < n → b1 k_ = ov D (σ (j)) bx k_) ∧ (b1 kk = .cells [.sc (.int .u32 a), .sc (.int .u32 b), .sc (.int .u32 c), .sc (.int .u32 d)]) ∧ (0 ≤ x ∧ x ≤ 8) ∧ (OkJ brk m j) ∧ (((touL a b c d).map enT).drop j = (rowT y x (c / 536870912 + 1 - x).toNat ++ tilT (a / 536870912) (c / 536870912 + 1 - a / 536870912).toNat (y + 1) (d / 536870912 + 1 - (y + 1)).toNat).map enT)) (1 + (10 - (a / 536870912)).toNat) ⟨_, sle ?_ (Nat.le_refl _), (a / 536870912), j, _, _, rfl, rfl, ?_⟩ ?_
        · (repeat' (first | exact trivial | refine ⟨⟨_, rfl, ?_⟩, ?_⟩ | fail)); all_goals (repeat' (first | exact VLe.refl _ | exact VLe.own_sl _ _ _ | exact VLe.fl_sl _ _ | exact VLe.nil_sl _ | exact VLe.nil_fl _ | exact VLes.refl _ | exact .nil | refine VLe.tup ?_ | refine VLe.agg ?_ | refine .cons ?_ ?_ | (rw [Int.natCast_add]; exact VLe.refl _) | exact vle_int (by omega) | exact vle_bool (by first | rfl | assumption | (simp_all; done) | fail) | fail))
        · exact ⟨by omega, (fun k_ hk_ => ovT (fun hD_ => by repeat (first | exact ovYJ hD_ (by omega) | refine uN (by first | assumption | omega) ?_ | exact (hf0 _ (by omega)).trans (ovYJ hD_ (by omega)) | exact (hf99 _ (by omega)).trans (ovYJ hD_ (by omega)) | fail)) (fun hD_ => by repeat (first | refine uN (by first | assumption | omega) ?_ | refine ovN hD_ ?_ | exact (hf0 _ (by omega)).trans ((ovN hD_ rfl).trans (rfl)) | exact rfl | fail))), by first | ((repeat (first | exact uE | assumption | refine uN (by omega) ?_ | refine ovN (by first | assumption | exact hDn _ (by omega)) ?_ | fail)); done) | exact tl_eq (by repeat (first | exact uE | assumption | refine uN (by omega) ?_ | refine ovN (by first | assumption | exact hDn _ (by omega)) ?_ | fail)) (by first | rfl | (simp [bytesV, beB_len]; done) | (simp [bytesV, beB_len]; omega) | omega), by omega, hF0_1, by rw [hF0_2, til1 (by assumption)]⟩
        · rintro _ _ ⟨x, j, m1, b1, rfl, rfl, hm1, hf1, hB1_0, hF1_0, hF1_1, hF1_2⟩
          refine runs_know (fun hd1 => ?_)
          refine runs_bump 20 ?_
          simp only at hd1
          refine runs_seq ?_
          refine runs_seq ?_
          refine runs_region ?_
          refine rl0 (gn rfl) rfl rfl (step_mv rfl rfl) trivial ?_
          refine rl0 (gn rfl) rfl rfl (step_fieldAddr (off := 2) rfl (ev_mk rfl) Try.underlying25 rfl F.sz23 rfl) trivial ?_
          refine' rl0 (gn rfl) rfl rfl (step_load_one rfl (ev_mk rfl) F.one23 ?hv) ⟨?hb, trivial⟩ ?_
          case hb => repeat (first | exact uE | refine uN (by omega) ?_ | assumption | refine ovN (by first | assumption | exact hDn _ (by omega)) ?_ | exact hd _ (by omega) | exact hd0 _ (by omega) | exact hd1 _ (by omega) | fail)
          case hv => rfl
          refine rl0 (gn rfl) rfl rfl (step_shr (r := c / 536870912) rfl (ev_mk rfl) (ev_mk rfl) (by omega) (sh29)) trivial ?_
          refine rl_leq (gn rfl) rfl rfl rfl rfl rfl (fun h3 => ?_) (fun h3 => ?_)
          · skip
            refine runsL_nil ?_
            refine runs_cond true (ev_mk rfl) (fun _ => ?_) (fun h_ => nomatch h_)
            refine runs_skip ?_
            refine runs_seq ?_
            refine runs_block ?_
            refine runs_seq ?_
            refine runs_region ?_
            refine rl0 (gn rfl) rfl rfl (step_mv rfl rfl) trivial ?_
            refine rl0 (gn rfl) rfl rfl (step_mv rfl rfl) trivial ?_
            refine rl0 (gn rfl) rfl rfl (step_conv_id rfl rfl Try.underlying23 Try.underlying3 (w64 (by omega))) trivial ?_
            refine rl0 (gn rfl) rfl rfl (step_mul rfl (ev_mk rfl) (ev_mk rfl) (w64 (by omega))) trivial ?_
            refine rl0 (gn rfl) rfl rfl (step_mv rfl rfl) trivial ?_
            refine rl0 (gn rfl) rfl rfl (step_conv_id rfl rfl Try.underlying23 Try.underlying3 (w64 (by omega))) trivial ?_
            refine rl0 (gn rfl) rfl rfl (step_add rfl (ev_mk rfl) (ev_mk rfl) (w64 (by omega))) trivial ?_
            have hdr_ := row_add hF1_2 (by assumption)
            have hlt_ : j < m := OkJ.lt hF1_1 h3m hdr_.2.2
            refine rl_yield (gn rfl) rfl rfl rfl rfl rfl (by repeat (first | exact .nil | refine .cons ?_ ?_ | exact VLe.refl _ | exact vle_int (by omega) | refine VLe.agg ?_)) (hY (j) _ hlt_ (hdr_.1)) hXb (by omega) (fun k_ hD_ => ?_) (fun k_ hk1_ hD_ hk3_ => ?_) ?_
            · have hk1_ := hDlt k_ hD_; obtain ⟨ee0_, _⟩ := hDE k_ hD_; exact ⟨by omega, by repeat (first | exact ovYJ hD_ (by omega) | refine uN (by first | assumption | omega) ?_ | exact (hf0 _ (by omega)).trans (ovYJ hD_ (by omega)) | exact (hf1 _ (by omega)).trans (ovYJ hD_ (by omega)) | exact (hf99 _ (by omega)).trans (ovYJ hD_ (by omega)) | fail)⟩
            · obtain ⟨ee0_, _⟩ := inK_no hk3_; repeat (first | refine uN (by first | assumption | omega) ?_ | refine ovN hD_ ?_ | exact (hf0 _ (by omega)).trans ((ovN hD_ rfl).trans (hOt k_ hk1_ hD_ hk3_)) | exact (hf1 _ (by omega)).trans ((ovN hD_ rfl).trans (hOt k_ hk1_ hD_ hk3_)) | exact hOt k_ hk1_ hD_ hk3_ | fail)
            refine rl_bool (d := 34) rfl (fun h4 => ?_) (fun h4 => ?_)
            · skip
              have hJn_ := OkJ.next h4 hlt_
              refine rl0 (gn rfl) rfl rfl (step_unOp (c := .bool false) rfl (ev_mk rfl) (fun _ => rfl)) trivial ?_
              refine runsL_nil ?_
              refine runs_cond false (ev_mk rfl) (fun h_ => nomatch h_) (fun _ => ?_)
              refine runs_skip ?_
              refine runs_region ?_
              refine rl0 (gn rfl) rfl rfl (step_mv rfl rfl) trivial ?_
              refine rl0 (gn rfl) rfl rfl (step_add rfl (ev_mk rfl) (ev_mk rfl) (wu32 (by omega))) trivial ?_
              refine rl0 (gn rfl) rfl rfl (step_as rfl rfl) trivial ?_
              refine runsL_nil ?_
              refine ⟨_, _, ?_, sle ?_ (Nat.le_refl _), (x + 1), (j + 1), _, _, rfl, rfl, by omega, (fun k_ hk_ => ovT (fun hD_ => by repeat (first | exact ovYJ hD_ (by omega) | refine uN (by first | assumption | omega) ?_ | exact (hf0 _ (by omega)).trans (ovYJ hD_ (by omega)) | exact (hf1 _ (by omega)).trans (ovYJ hD_ (by omega)) | exact (hf99 _ (by omega)).trans (ovYJ hD_ (by omega)) | fail)) (fun hD_ => by repeat (first | refine uN (by first | assumption | omega) ?_ | refine ovN hD_ ?_ | exact (hf0 _ (by omega)).trans ((ovN hD_ rfl).trans (rfl)) | exact (hf1 _ (by omega)).trans ((ovN hD_ rfl).trans (rfl)) | exact rfl | fail))), by first | ((repeat (first | exact uE | assumption | refine uN (by omega) ?_ | refine ovN (by first | assumption | exact hDn _ (by omega)) ?_ | fail)); done) | exact tl_eq (by repeat (first | exact uE | assumption | refine uN (by omega) ?_ | refine ovN (by first | assumption | exact hDn _ (by omega)) ?_ | fail)) (by first | rfl | (simp [bytesV, beB_len]; done) | (simp [bytesV, beB_len]; omega) | omega), by omega, hJn_, hdr_.2.1⟩
              · omega
              · (repeat' (first | exact trivial | refine ⟨⟨_, rfl, ?_⟩, ?_⟩ | fail)); all_goals (repeat' (first | exact VLe.refl _ | exact VLe.own_sl _ _ _ | exact VLe.fl_sl _ _ | exact VLe.nil_sl _ | exact VLe.nil_fl _ | exact VLes.refl _ | exact .nil | refine VLe.tup ?_ | refine VLe.agg ?_ | refine .cons ?_ ?_ | (rw [Int.natCast_add]; exact VLe.refl _) | exact vle_int (by omega) | exact vle_bool (by first | rfl | assumption | (simp_all; done) | fail) | fail))
            · skip
              obtain ⟨hbk_, hjm_⟩ := beq_s h4
              refine rl0 (gn rfl) rfl rfl (step_unOp (c := .bool true) rfl (ev_mk rfl) (fun _ => rfl)) trivial ?_
              refine runsL_nil ?_
              refine runs_cond true (ev_mk rfl) (fun _ => ?_) (fun h_ => nomatch h_)
              refine runs_ret ?_
              refine ⟨by first | exact .inr rfl | exact .inl rfl, fun k_ hk_ => ?_⟩
              cases hD_ : D k_ with
              | true => obtain ⟨ee0_, _⟩ := hDE k_ hD_; refine ble (Eq.trans ?_ (ovY hD_ rfl).symm); repeat (first | exact ovYJ hD_ (by omega) | refine uN (by first | assumption | omega) ?_ | exact (hf0 _ (by omega)).trans (ovYJ hD_ (by omega)) | exact (hf1 _ (by omega)).trans (ovYJ hD_ (by omega)) | exact (hf99 _ (by omega)).trans (ovYJ hD_ (by omega)) | fail)
              | false => refine bl_ov hD_ ?_; simp only [eM, updL, List.map_cons, List.map_nil]; by_cases e0_ : k_ = kk; (focus subst e0_; refine bl_eq ?_; first | (refine ble ?_; (repeat (first | exact uE | assumption | refine uN (by omega) ?_ | refine ovN (by first | assumption | exact hDn _ (by omega)) ?_ | fail)); done) | (refine' blec ?hb ?hl; (case hb => repeat (first | exact uE | assumption | refine uN (by omega) ?_ | refine ovN (by first | assumption | exact hDn _ (by omega)) ?_ | fail)); (case hl => first | exact VLes.refl _ | ((repeat' (first | exact VLe.refl _ | exact VLe.own_sl _ _ _ | exact VLe.fl_sl _ _ | exact VLe.nil_sl _ | exact VLe.nil_fl _ | exact VLes.refl _ | exact .nil | refine VLe.tup ?_ | refine VLe.agg ?_ | refine .cons ?_ ?_ | (rw [Int.natCast_add]; exact VLe.refl _) | exact vle_int (by omega) | exact vle_bool (by first | rfl | assumption | (simp_all; done) | fail) | fail)); done)))); refine bl_ne e0_ ?_; exact ble (by repeat (first | refine uN (by first | assumption | omega) ?_ | refine ovN hD_ ?_ | exact (hf0 _ (by omega)).trans ((ovN hD_ rfl).trans (rfl)) | exact (hf1 _ (by omega)).trans ((ovN hD_ rfl).trans (rfl)) | exact rfl | fail))
          · skip
            refine runsL_nil ?_
            refine runs_cond false (ev_mk rfl) (fun h_ => nomatch h_) (fun _ => ?_)
            refine runs_exit ?_
            refine runs_region ?_
            refine rl0 (gn rfl) rfl rfl (step_mv rfl rfl) trivial ?_
            refine rl0 (gn rfl) rfl rfl (step_add rfl (ev_mk rfl) (ev_mk rfl) (wu32 (by omega))) trivial ?_
            refine rl0 (gn rfl) rfl rfl (step_as rfl rfl) trivial ?_
            refine runsL_nil ?_
            refine ⟨_, _, ?_, sle ?_ (Nat.le_refl _), (y + 1), j, _, _, rfl, rfl, by omega, (fun k_ hk_ => ovT (fun hD_ => by repeat (first | exact ovYJ hD_ (by omega) | refine uN (by first | assumption | omega) ?_ | exact (hf0 _ (by omega)).trans (ovYJ hD_ (by omega)) | exact (hf1 _ (by omega)).trans (ovYJ hD_ (by omega)) | exact (hf99 _ (by omega)).trans (ovYJ hD_ (by omega)) | fail)) (fun hD_ => by repeat (first | refine uN (by first | assumption | omega) ?_ | refine ovN hD_ ?_ | exact (hf0 _ (by omega)).trans ((ovN hD_ rfl).trans (rfl)) | exact (hf1 _ (by omega)).trans ((ovN hD_ rfl).trans (rfl)) | exact rfl | fail))), by first | ((repeat (first | exact uE | assumption | refine uN (by omega) ?_ | refine ovN (by first | assumption | exact hDn _ (by omega)) ?_ | fail)); done) | exact tl_eq (by repeat (first | exact uE | assumption | refine uN (by omega) ?_ | refine ovN (by first | assumption | exact hDn _ (by omega)) ?_ | fail)) (by first | rfl | (simp [bytesV, beB_len]; done) | (simp [bytesV, beB_len]; omega) | omega), by omega, hF1_1, by rw [hF1_2, row0 (by assumption)]; rfl⟩
            · omega
            · (repeat' (first | exact trivial | refine ⟨⟨_, rfl, ?_⟩, ?_⟩ | fail)); all_goals (repeat' (first | exact VLe.refl _ | exact VLe.own_sl _ _ _ | exact VLe.fl_sl _ _ | exact VLe.nil_sl _ | exact VLe.nil_fl _ | exact VLes.refl _ | exact .nil | refine VLe.tup ?_ | refine VLe.agg ?_ | refine .cons ?_ ?_ | (rw [Int.natCast_add]; exact VLe.refl _) | exact vle_int (by omega) | exact vle_bool (by first | rfl | assumption | (simp_all; done) | fail) | fail))
      · skip
        have hJm_ := OkJ.fin hF0_1 h1m (drop_nil (by rw [hF0_2, til0 (by assumption)]; rfl))
        refine runsL_nil ?_
        refine runs_cond false (ev_mk rfl) (fun h_ => nomatch h_) (fun _ => ?_)
        refine runs_exit ?_
        refine ⟨by first | exact .inr rfl | exact .inl rfl, fun k_ hk_ => ?_⟩
        cases hD_ : D k_ with
        | true => obtain ⟨ee0_, _⟩ := hDE k_ hD_; refine ble (Eq.trans ?_ (ovY hD_ rfl).symm); repeat (first | exact ovYJ hD_ (by omega) | refine uN (by first | assumption | omega) ?_ | exact (hf0 _ (by omega)).trans (ovYJ hD_ (by omega)) | exact (hf99 _ (by omega)).trans (ovYJ hD_ (by omega)) | fail)
        | false => refine bl_ov hD_ ?_; simp only [eM, updL, List.map_cons, List.map_nil]; by_cases e0_ : k_ = kk; (focus subst e0_; refine bl_eq ?_; first | (refine ble ?_; (repeat (first | exact uE | assumption | refine uN (by omega) ?_ | refine ovN (by first | assumption | exact hDn _ (by omega)) ?_ | fail)); done) | (refine' blec ?hb ?hl; (case hb => repeat (first | exact uE | assumption | refine uN (by omega) ?_ | refine ovN (by first | assumption | exact hDn _ (by omega)) ?_ | fail)); (case hl => first | exact VLes.refl _ | ((repeat' (first | exact VLe.refl _ | exact VLe.own_sl _ _ _ | exact VLe.fl_sl _ _ | exact VLe.nil_sl _ | exact VLe.nil_fl _ | exact VLes.refl _ | exact .nil | refine VLe.tup ?_ | refine VLe.agg ?_ | refine .cons ?_ ?_ | (rw [Int.natCast_add]; exact VLe.refl _) | exact vle_int (by omega) | exact vle_bool (by first | rfl | assumption | (simp_all; done) | fail) | fail)); done)))); refine bl_ne e0_ ?_; exact ble (by repeat (first | refine uN (by first | assumption | omega) ?_ | refine ovN hD_ ?_ | exact (hf0 _ (by omega)).trans ((ovN hD_ rfl).trans (rfl)) | exact rfl | fail))
end Go.Proofs.Ythpkhecialkmmaa

