/- Walks by the logic of values. -/
import Derived.Test.YtcemdkppkklfnaaKtVa
import Derived.Test.YtcemdkppkklfnaaKtVb
import Derived.Test.YtcemdkppkklfnaaKtVmT
import Derived.Test.YtcemdkppkklfnaaKtVmP
import Derived.Test.YtcemdkppkklfnaaKtVmV
namespace Go.Proofs.Ytcemdkppkklfnaa
open Go.Vm
set_option linter.unusedVariables false
set_option linter.unusedSimpArgs false
theorem shape24 : shapeOf Try.prog 3 24 = some [CK.i .u32, CK.i .u32, CK.i .u32, CK.i .u32] := by kernel_rfl
theorem eqg24 : Try.prog.eqGuardType Try.prog.depth 24 = false := by kernel_rfl
def rcU (a b c d : Int) : List Value := [.int .u32 a, .int .u32 b, .int .u32 c, .int .u32 d]
theorem step_eql24 {o : Oper} {t : Nat → V} {x y : Operand} {a b c d e f p q : Int} {ty2 : TypeId} (ho : o.op = .binOp .eql 24 x y ty2) (hx : ev t x = .agg (rcC a b c d)) (hy : ev t y = .agg (rcC e f p q)) : StepOK Try.prog o t [] [] (.sc (.bool (eqCs (rcU a b c d) (rcU e f p q)))) :=
  step_eq_agg (xs := rcU a b c d) (ys := rcU e f p q) ho hx hy shape24 (by omega) ⟨_, Try.underlying24, rfl⟩ eqg24 rfl rfl (.inl ⟨rfl, rfl⟩)
def wiF (a b c d e f p q : Int) : Bool := emF a b c d || (!emF e f p q && eqCs (rcU (mx a e) (mx b f) (mn c p) (mn d q)) (rcU a b c d))
/-! The tiles, checked one by one. -/
def rowN (y x : Nat) : Nat → List Nat
  | 0 => []
  | k + 1 => (y * 8 + x) :: rowN y (x + 1) k
def tilN (x w y : Nat) : Nat → List Nat
  | 0 => []
  | k + 1 => rowN y x w ++ tilN x w (y + 1) k
def tstN (A B C D t : Nat) : Bool := Nat.ble A (t % 8) && Nat.ble (t % 8) C && Nat.ble B (t / 8) && Nat.ble (t / 8) D
theorem tab : ((List.range 8).all fun A => (List.range 8).all fun B => (List.range 8).all fun C => (List.range 8).all fun D => tilN A (C + 1 - A) B (D + 1 - B) == (List.range 64).filter (tstN A B C D)) = true := by decide +kernel
theorem row_N (y x k : Nat) : rowT (y : Int) (x : Int) k = (rowN y x k).map fun (i : Nat) => (i : Int) := by
  induction k generalizing x with
  | zero => rfl
  | succ k ih =>
    have := ih (x + 1)
    simp only [rowT, rowN, List.map_cons]
    rw [← this]
    simp
theorem til_N (x w y k : Nat) : tilT (x : Int) w (y : Int) k = (tilN x w y k).map fun (i : Nat) => (i : Int) := by
  induction k generalizing y with
  | zero => rfl
  | succ k ih =>
    have := ih (y + 1)
    simp only [tilT, tilN, List.map_append]
    rw [← this, row_N]
    simp
theorem tou_ref {a b c d : Int} (g0 : 0 ≤ a ∧ a ≤ 4294967295) (g1 : 0 ≤ b ∧ b ≤ 4294967295) (g2 : 0 ≤ c ∧ c ≤ 4294967295) (g3 : 0 ≤ d ∧ d ≤ 4294967295) : touL a b c d = refL a b c d 64 := by
  unfold touL refL
  by_cases he : emF a b c d = true
  · rw [if_pos he]
    have he' := of_decide_eq_true he
    rw [List.filter_eq_nil_iff.2 (fun t _ => by unfold tosF; rw [decide_eq_false (fun h => h.1 he')]; simp)]
    rfl
  · rw [if_neg he]
    have he' : ¬ (a > c ∨ b > d) := fun h => he (decide_eq_true h)
    obtain ⟨A, hA⟩ : ∃ A : Nat, (A : Int) = a / 536870912 := ⟨(a / 536870912).toNat, by omega⟩
    obtain ⟨B, hB⟩ : ∃ A : Nat, (A : Int) = b / 536870912 := ⟨(b / 536870912).toNat, by omega⟩
    obtain ⟨C, hC⟩ : ∃ A : Nat, (A : Int) = c / 536870912 := ⟨(c / 536870912).toNat, by omega⟩
    obtain ⟨D, hD⟩ : ∃ A : Nat, (A : Int) = d / 536870912 := ⟨(d / 536870912).toNat, by omega⟩
    rw [← hA, ← hB, ← hC, ← hD, show ((C : Int) + 1 - A).toNat = C + 1 - A by omega, show ((D : Int) + 1 - B).toNat = D + 1 - B by omega, til_N]
    have h1 := List.all_eq_true.1 tab A (List.mem_range.2 (by omega))
    have h2 := List.all_eq_true.1 h1 B (List.mem_range.2 (by omega))
    have h3 := List.all_eq_true.1 h2 C (List.mem_range.2 (by omega))
    have h4 := List.all_eq_true.1 h3 D (List.mem_range.2 (by omega))
    rw [eq_of_beq h4]
    congr 1
    refine List.filter_congr fun t ht => ?_
    have ht := List.mem_range.1 ht
    have e : tstN A B C D t = decide (A ≤ t % 8 ∧ t % 8 ≤ C ∧ B ≤ t / 8 ∧ t / 8 ≤ D) := by
      unfold tstN
      rw [Bool.eq_iff_iff]
      simp only [Bool.and_eq_true, Nat.ble_eq, decide_eq_true_eq]
      omega
    rw [e]
    unfold tosF
    rw [decide_eq_decide]
    rw [← hA, ← hB, ← hC, ← hD]
    constructor
    · intro h; exact ⟨he', by omega⟩
    · intro h; have := h.2; omega
theorem mem_tou {a b c d t : Int} (g0 : 0 ≤ a ∧ a ≤ 4294967295) (g1 : 0 ≤ b ∧ b ≤ 4294967295) (g2 : 0 ≤ c ∧ c ≤ 4294967295) (g3 : 0 ≤ d ∧ d ≤ 4294967295) : t ∈ touL a b c d ↔ 0 ≤ t ∧ t < 64 ∧ tosF a b c d t = true := by
  rw [tou_ref g0 g1 g2 g3]
  unfold refL
  simp only [List.mem_map, List.mem_filter, List.mem_range]
  constructor
  · rintro ⟨i, ⟨h1, h2⟩, rfl⟩; exact ⟨by omega, by omega, h2⟩
  · rintro ⟨h1, h2, h3⟩; exact ⟨t.toNat, ⟨by omega, by rw [show ((t.toNat : Nat) : Int) = t by omega]; exact h3⟩, by omega⟩
theorem mx_or (a b : Int) : (mx a b = b ∧ b > a) ∨ (mx a b = a ∧ ¬ b > a) := by by_cases h : b > a; exact .inl ⟨if_pos h, h⟩; exact .inr ⟨if_neg h, h⟩
theorem mn_or (a b : Int) : (mn a b = b ∧ b < a) ∨ (mn a b = a ∧ ¬ b < a) := by by_cases h : b < a; exact .inl ⟨if_pos h, h⟩; exact .inr ⟨if_neg h, h⟩
theorem meets_of {a b c d t : Int} (g0 : 0 ≤ a ∧ a ≤ 4294967295) (g1 : 0 ≤ b ∧ b ≤ 4294967295) (g2 : 0 ≤ c ∧ c ≤ 4294967295) (g3 : 0 ≤ d ∧ d ≤ 4294967295) (h : t ∈ touL a b c d) : (!emF (o0 t) (o1 t) (o2 t) (o3 t) && !emF a b c d && !emF (mx (o0 t) a) (mx (o1 t) b) (mn (o2 t) c) (mn (o3 t) d)) = true := by
  obtain ⟨h1, h2, h3⟩ := (mem_tou g0 g1 g2 g3).1 h
  have h4 := of_decide_eq_true h3
  obtain ⟨e0, e1, e2, e3⟩ := o_in ⟨h1, h2⟩
  have k0 := mx_or (o0 t) a; have k1 := mx_or (o1 t) b; have k2 := mn_or (o2 t) c; have k3 := mn_or (o3 t) d
  unfold emF
  rw [decide_eq_false (by omega), decide_eq_false h4.1, decide_eq_false (by omega)]
  rfl
theorem em_of (t : Int) : emF (o0 t) (o1 t) (o2 t) (o3 t) = decide (t < 0 ∨ t > 63) := by
  by_cases h : 0 ≤ t ∧ t < 64
  · obtain ⟨e0, e1, e2, e3⟩ := o_in h
    unfold emF; rw [decide_eq_false (by omega), decide_eq_false (by omega)]
  · obtain ⟨e0, e1, e2, e3⟩ := o_out h
    unfold emF; rw [decide_eq_true (by omega), decide_eq_true (by omega)]
theorem has_of {t x y : Int} (hx : 0 ≤ x ∧ x ≤ 4294967295) (hy : 0 ≤ y ∧ y ≤ 4294967295) : hasF (o0 t) (o1 t) (o2 t) (o3 t) x y = decide (t = tiF x y) := by
  unfold hasF tiF
  rw [decide_eq_decide]
  by_cases h : 0 ≤ t ∧ t < 64
  · obtain ⟨e0, e1, e2, e3⟩ := o_in h
    omega
  · obtain ⟨e0, e1, e2, e3⟩ := o_out h
    omega
theorem ti_bd {x y : Int} (hx : 0 ≤ x ∧ x ≤ 4294967295) (hy : 0 ≤ y ∧ y ≤ 4294967295) : 0 ≤ tiF x y ∧ tiF x y ≤ 63 := by unfold tiF; omega
def metF (a b c d x y : Int) (i : Nat) : Bool := ((touL a b c d).take i).any fun t => decide (t = tiF x y)
theorem met_s {a b c d x y t : Int} {i : Nat} (h : (touL a b c d)[i]? = some t) : metF a b c d x y (i + 1) = (metF a b c d x y i || decide (t = tiF x y)) := by
  unfold metF
  rw [List.take_add_one, h]
  simp
theorem met1 {a b c d x y t : Int} {i : Nat} (h : (touL a b c d)[i]? = some t) (h1 : metF a b c d x y i = true) : true = metF a b c d x y (i + 1) := by rw [met_s h, h1]; rfl
theorem met2 {a b c d x y t : Int} {i : Nat} (h : (touL a b c d)[i]? = some t) (h1 : t = tiF x y) : true = metF a b c d x y (i + 1) := by rw [met_s h, decide_eq_true h1]; simp
theorem met3 {a b c d x y t : Int} {i : Nat} (h : (touL a b c d)[i]? = some t) (h1 : metF a b c d x y i = false) (h2 : ¬ t = tiF x y) : false = metF a b c d x y (i + 1) := by rw [met_s h, h1, decide_eq_false h2]; rfl
theorem met_all {a b c d x y : Int} (g0 : 0 ≤ a ∧ a ≤ 4294967295) (g1 : 0 ≤ b ∧ b ≤ 4294967295) (g2 : 0 ≤ c ∧ c ≤ 4294967295) (g3 : 0 ≤ d ∧ d ≤ 4294967295) (hx : 0 ≤ x ∧ x ≤ 4294967295) (hy : 0 ≤ y ∧ y ≤ 4294967295) (h : (!hasF a b c d x y) = false) : metF a b c d x y (touL a b c d).length = true := by
  have h1 : hasF a b c d x y = true := by simpa using h
  have h2 := of_decide_eq_true h1
  unfold metF
  rw [List.take_length, List.any_eq_true]
  refine ⟨tiF x y, (mem_tou g0 g1 g2 g3).2 ⟨(ti_bd hx hy).1, by have := (ti_bd hx hy).2; omega, decide_eq_true ?_⟩, by simp⟩
  unfold tiF; omega
theorem at_get {L : List Int} {i : Nat} {t : Int} (h : L[i]? = some t) : at' L (i : Int) = t := by
  unfold at'
  rw [Int.toNat_natCast, List.getD_eq_getElem?_getD, h]; rfl
theorem rtou2 {a b c d : Int} (g0 : 0 ≤ a ∧ a ≤ 4294967295) (g1 : 0 ≤ b ∧ b ≤ 4294967295) (g2 : 0 ≤ c ∧ c ≤ 4294967295) (g3 : 0 ≤ d ∧ d ≤ 4294967295) : Does Try.prog 18 [.agg (rcC a b c d)] [] [] (.sl 1 ((touL a b c d).map enT)) := by
  rw [tou_ref g0 g1 g2 g3]; exact rtou_c g0 g1 g2 g3
set_option maxRecDepth 100000 in
set_option maxHeartbeats 4000000 in
theorem within_c {a b c d e f p q : Int} : Does Try.prog 12 [.agg (rcC a b c d), .agg (rcC e f p q)] [] [] (.sc (.bool (wiF a b c d e f p q))) := by
  refine does_mkg 40 Try.func12 rfl rfl rfl (fun n B bx hd hpre hup hvs hbx hgx => ?_)
  refine runs_seq ?_
  refine runs_region ?_
  refine rl1 (gn rfl) rfl rfl (step_box_agg (k := n + 0) rfl rfl) ⟨by repeat (first | exact uE | refine uN (by omega) ?_ | assumption | exact hd _ (by omega) | fail), trivial⟩ (by omega) ?_
  refine rl1 (gn rfl) rfl rfl (step_box_agg (k := n + 1) rfl rfl) ⟨by repeat (first | exact uE | refine uN (by omega) ?_ | assumption | exact hd _ (by omega) | fail), trivial⟩ (by omega) ?_
  refine rl0 (gn rfl) rfl rfl (step_as rfl rfl) trivial ?_
  refine runsL_nil ?_
  refine runs_seq ?_
  refine runs_draw (by kernel_rfl) (by kernel_rfl) (by kernel_rfl) ?_
  refine' dl0 (gn rfl) rfl rfl (step_load_all rfl rfl F.agg24 ?hl) ⟨?hb, trivial⟩ ?_
  case hb => repeat (first | exact uE | refine uN (by omega) ?_ | assumption | exact hd _ (by omega) | fail)
  case hl => first | rfl | (simp; done) | (first | (simp; done) | (simp; omega) | omega)
  refine dl0 (gn rfl) rfl rfl (step_callc rfl Try.func10 rfl rfl rfl (emp_c) (by repeat (first | exact .nil | refine .cons ?_ ?_ | exact VLe.refl _ | exact VLe.own_sl _ _ _ | exact VLe.fl_sl _ _ | exact VLe.nil_sl _ | exact VLe.nil_fl _ | refine VLe.agg ?_))) trivial ?_
  refine dl0 (gn rfl) rfl rfl (step_mv rfl rfl) trivial ?_
  refine dl_bool (d := 7) rfl (fun h1 => ?_) (fun h1 => ?_)
  · skip
    refine dlk rfl rfl rfl rfl rfl (ngb rfl rfl) rfl rfl ?_
    refine dlk rfl rfl rfl rfl rfl (ngb rfl rfl) rfl rfl ?_
    refine dlk rfl rfl rfl rfl rfl (ngb rfl rfl) rfl rfl ?_
    refine dlk rfl rfl rfl rfl rfl (ngb rfl rfl) rfl rfl ?_
    refine dlk rfl rfl rfl rfl rfl (ngu rfl) rfl rfl ?_
    refine dlk rfl rfl rfl rfl rfl (ngu rfl) rfl rfl ?_
    refine dlk rfl rfl rfl rfl rfl (ngu rfl) rfl rfl ?_
    refine dlk rfl rfl rfl rfl rfl (ngu rfl) rfl rfl ?_
    refine dlk rfl rfl rfl rfl rfl (ngu rfl) rfl rfl ?_
    refine dlk rfl rfl rfl rfl rfl (ngb rfl rfl) rfl rfl ?_
    refine dl0 (gn rfl) rfl rfl (step_pick rfl (ev_mk rfl) (ev_mk rfl)) trivial ?_
    refine dl0 (gn rfl) rfl rfl (step_as rfl rfl) trivial ?_
    refine dlnil ?_ ?_
    · repeat' (first | exact trivial | exact .inr (ap0 _ _ _ _) | exact .inr (ap2 _ _ _ _) | exact .inr (ap3 _ _ _ _) | exact .inr ⟨by first | (simp; done) | (simp; omega), by first | (simp; done) | (simp; omega)⟩ | exact .inl (by kernel_rfl) | refine ⟨?_, ?_⟩ | fail)
    refine runs_ret ?_
    unfold wiF
    refine ⟨by first | exact .inr rfl | exact .inl rfl, fin_mkg (rest rfl res0) ?_ ?_ ?_ ?_ ?_⟩
    · (repeat' (first | exact VLe.refl _ | exact VLe.own_sl _ _ _ | exact VLe.fl_sl _ _ | exact VLe.nil_sl _ | exact VLe.nil_fl _ | exact VLes.refl _ | exact .nil | refine VLe.tup ?_ | refine VLe.agg ?_ | refine .cons ?_ ?_ | (rw [Int.natCast_add]; exact VLe.refl _) | exact vle_int (by omega) | exact vle_bool (by first | rfl | assumption | (simp_all; done)) | (exact vle_bool (by simp_all)) | fail))
    · repeat (first | exact trivial | assumption | omega | (refine bdR_map (fun _ => ?_)) | (refine bdL_map (fun _ => ?_)) | refine ⟨?_, ?_⟩ | fail)
    · intro k_ hk_; exact ble (by repeat (first | exact rfl | refine uN (by omega) ?_ | assumption | fail))
    · intro p hp; cases hp
    · repeat (first | exact trivial | assumption | omega | (refine bdR_map (fun _ => ?_)) | (refine bdL_map (fun _ => ?_)) | refine ⟨?_, ?_⟩ | fail)
  · skip
    refine' dl0 (gy rfl rfl rfl rfl rfl rfl) rfl rfl (step_load_all rfl rfl F.agg24 ?hl) ⟨?hb, trivial⟩ ?_
    case hb => repeat (first | exact uE | refine uN (by omega) ?_ | assumption | exact hd _ (by omega) | fail)
    case hl => first | rfl | (simp; done) | (first | (simp; done) | (simp; omega) | omega)
    refine dl0 (gy rfl rfl rfl rfl rfl rfl) rfl rfl (step_callc rfl Try.func10 rfl rfl rfl (emp_c) (by repeat (first | exact .nil | refine .cons ?_ ?_ | exact VLe.refl _ | exact VLe.own_sl _ _ _ | exact VLe.fl_sl _ _ | exact VLe.nil_sl _ | exact VLe.nil_fl _ | refine VLe.agg ?_))) trivial ?_
    refine dl0 (gy rfl rfl rfl rfl rfl rfl) rfl rfl (step_unOp rfl (ev_mk rfl) (fun _ => rfl)) trivial ?_
    refine dl0 (gy rfl rfl rfl rfl rfl rfl) rfl rfl (step_mv rfl rfl) trivial ?_
    refine dl_bool (d := 11) rfl (fun h2 => ?_) (fun h2 => ?_)
    · skip
      refine' dl0 (gy rfl rfl rfl rfl rfl rfl) rfl rfl (step_load_all rfl rfl F.agg24 ?hl) ⟨?hb, trivial⟩ ?_
      case hb => repeat (first | exact uE | refine uN (by omega) ?_ | assumption | exact hd _ (by omega) | fail)
      case hl => first | rfl | (simp; done) | (first | (simp; done) | (simp; omega) | omega)
      refine' dl0 (gy rfl rfl rfl rfl rfl rfl) rfl rfl (step_load_all rfl rfl F.agg24 ?hl) ⟨?hb, trivial⟩ ?_
      case hb => repeat (first | exact uE | refine uN (by omega) ?_ | assumption | exact hd _ (by omega) | fail)
      case hl => first | rfl | (simp; done) | (first | (simp; done) | (simp; omega) | omega)
      refine dl0 (gy rfl rfl rfl rfl rfl rfl) rfl rfl (step_callc rfl Try.func8 rfl rfl rfl (meet_c) (by repeat (first | exact .nil | refine .cons ?_ ?_ | exact VLe.refl _ | exact VLe.own_sl _ _ _ | exact VLe.fl_sl _ _ | exact VLe.nil_sl _ | exact VLe.nil_fl _ | refine VLe.agg ?_))) trivial ?_
      refine' dl0 (gy rfl rfl rfl rfl rfl rfl) rfl rfl (step_load_all rfl rfl F.agg24 ?hl) ⟨?hb, trivial⟩ ?_
      case hb => repeat (first | exact uE | refine uN (by omega) ?_ | assumption | exact hd _ (by omega) | fail)
      case hl => first | rfl | (simp; done) | (first | (simp; done) | (simp; omega) | omega)
      refine dl0 (gy rfl rfl rfl rfl rfl rfl) rfl rfl (step_eql24 rfl (ev_mk rfl) (ev_mk rfl)) trivial ?_
      refine dl0 (gy rfl rfl rfl rfl rfl rfl) rfl rfl (step_pick rfl (ev_mk rfl) (ev_mk rfl)) trivial ?_
      refine dl0 (gn rfl) rfl rfl (step_pick rfl (ev_mk rfl) (ev_mk rfl)) trivial ?_
      refine dl0 (gn rfl) rfl rfl (step_as rfl rfl) trivial ?_
      refine dlnil ?_ ?_
      · repeat' (first | exact trivial | exact .inr (ap0 _ _ _ _) | exact .inr (ap2 _ _ _ _) | exact .inr (ap3 _ _ _ _) | exact .inr ⟨by first | (simp; done) | (simp; omega), by first | (simp; done) | (simp; omega)⟩ | exact .inl (by kernel_rfl) | refine ⟨?_, ?_⟩ | fail)
      refine runs_ret ?_
      unfold wiF
      refine ⟨by first | exact .inr rfl | exact .inl rfl, fin_mkg (rest rfl res0) ?_ ?_ ?_ ?_ ?_⟩
      · (repeat' (first | exact VLe.refl _ | exact VLe.own_sl _ _ _ | exact VLe.fl_sl _ _ | exact VLe.nil_sl _ | exact VLe.nil_fl _ | exact VLes.refl _ | exact .nil | refine VLe.tup ?_ | refine VLe.agg ?_ | refine .cons ?_ ?_ | (rw [Int.natCast_add]; exact VLe.refl _) | exact vle_int (by omega) | exact vle_bool (by first | rfl | assumption | (simp_all; done)) | (exact vle_bool (by simp_all)) | fail))
      · repeat (first | exact trivial | assumption | omega | (refine bdR_map (fun _ => ?_)) | (refine bdL_map (fun _ => ?_)) | refine ⟨?_, ?_⟩ | fail)
      · intro k_ hk_; exact ble (by repeat (first | exact rfl | refine uN (by omega) ?_ | assumption | fail))
      · intro p hp; cases hp
      · repeat (first | exact trivial | assumption | omega | (refine bdR_map (fun _ => ?_)) | (refine bdL_map (fun _ => ?_)) | refine ⟨?_, ?_⟩ | fail)
    · skip
      refine dlk rfl rfl rfl rfl rfl (ngb rfl rfl) rfl rfl ?_
      refine dlk rfl rfl rfl rfl rfl (ngb rfl rfl) rfl rfl ?_
      refine dlk rfl rfl rfl rfl rfl (ngb rfl rfl) rfl rfl ?_
      refine dlk rfl rfl rfl rfl rfl (ngb rfl rfl) rfl rfl ?_
      refine dlk rfl rfl rfl rfl rfl (ngb rfl rfl) rfl rfl ?_
      refine dl0 (gy rfl rfl rfl rfl rfl rfl) rfl rfl (step_pick rfl (ev_mk rfl) (ev_mk rfl)) trivial ?_
      refine dl0 (gn rfl) rfl rfl (step_pick rfl (ev_mk rfl) (ev_mk rfl)) trivial ?_
      refine dl0 (gn rfl) rfl rfl (step_as rfl rfl) trivial ?_
      refine dlnil ?_ ?_
      · repeat' (first | exact trivial | exact .inr (ap0 _ _ _ _) | exact .inr (ap2 _ _ _ _) | exact .inr (ap3 _ _ _ _) | exact .inr ⟨by first | (simp; done) | (simp; omega), by first | (simp; done) | (simp; omega)⟩ | exact .inl (by kernel_rfl) | refine ⟨?_, ?_⟩ | fail)
      refine runs_ret ?_
      unfold wiF
      refine ⟨by first | exact .inr rfl | exact .inl rfl, fin_mkg (rest rfl res0) ?_ ?_ ?_ ?_ ?_⟩
      · (repeat' (first | exact VLe.refl _ | exact VLe.own_sl _ _ _ | exact VLe.fl_sl _ _ | exact VLe.nil_sl _ | exact VLe.nil_fl _ | exact VLes.refl _ | exact .nil | refine VLe.tup ?_ | refine VLe.agg ?_ | refine .cons ?_ ?_ | (rw [Int.natCast_add]; exact VLe.refl _) | exact vle_int (by omega) | exact vle_bool (by first | rfl | assumption | (simp_all; done)) | (exact vle_bool (by simp_all)) | fail))
      · repeat (first | exact trivial | assumption | omega | (refine bdR_map (fun _ => ?_)) | (refine bdL_map (fun _ => ?_)) | refine ⟨?_, ?_⟩ | fail)
      · intro k_ hk_; exact ble (by repeat (first | exact rfl | refine uN (by omega) ?_ | assumption | fail))
      · intro p hp; cases hp
      · repeat (first | exact trivial | assumption | omega | (refine bdR_map (fun _ => ?_)) | (refine bdL_map (fun _ => ?_)) | refine ⟨?_, ?_⟩ | fail)
set_option maxRecDepth 100000 in
set_option maxHeartbeats 4000000 in
theorem hull_c {a b c d e f p q : Int} (k1 : emF a b c d = false) (k2 : emF e f p q = false) : Does Try.prog 9 [.agg (rcC a b c d), .agg (rcC e f p q)] [] [] (.agg (rcC (mn a e) (mn b f) (mx c p) (mx d q))) := by
  refine does_mkg 40 Try.func9 rfl rfl rfl (fun n B bx hd hpre hup hvs hbx hgx => ?_)
  refine runs_seq ?_
  refine runs_region ?_
  refine rl1 (gn rfl) rfl rfl (step_box_agg (k := n + 0) rfl rfl) ⟨by repeat (first | exact uE | refine uN (by omega) ?_ | assumption | exact hd _ (by omega) | fail), trivial⟩ (by omega) ?_
  refine rl1 (gn rfl) rfl rfl (step_box_agg (k := n + 1) rfl rfl) ⟨by repeat (first | exact uE | refine uN (by omega) ?_ | assumption | exact hd _ (by omega) | fail), trivial⟩ (by omega) ?_
  refine rl1 (gn rfl) rfl rfl (step_allocc (k := n + 2) (zs := [.int .u32 0, .int .u32 0, .int .u32 0, .int .u32 0]) (cs := [.sc (.int .u32 0), .sc (.int .u32 0), .sc (.int .u32 0), .sc (.int .u32 0)]) rfl F.zero24 (by first | rfl | simp) (by first | rfl | decide | simp) (by first | rfl | simp)) ⟨by repeat (first | exact uE | refine uN (by omega) ?_ | assumption | exact hd _ (by omega) | fail), trivial⟩ (by omega) ?_
  refine runsL_nil ?_
  refine runs_seq ?_
  refine runs_block ?_
  refine runs_seq ?_
  refine runs_region ?_
  refine' rl0 (gn rfl) rfl rfl (step_load_all rfl rfl F.agg24 ?hl) ⟨?hb, trivial⟩ ?_
  case hb => repeat (first | exact uE | refine uN (by omega) ?_ | assumption | exact hd _ (by omega) | fail)
  case hl => first | rfl | (simp; done) | (first | (simp; done) | (simp; omega) | omega)
  refine rl0 (gn rfl) rfl rfl (step_callc rfl Try.func10 rfl rfl rfl (emp_c) (by repeat (first | exact .nil | refine .cons ?_ ?_ | exact VLe.refl _ | exact VLe.own_sl _ _ _ | exact VLe.fl_sl _ _ | exact VLe.nil_sl _ | exact VLe.nil_fl _ | refine VLe.agg ?_))) trivial ?_
  refine rl_know (d := 7) (c := false) rfl (k1) ?_
  refine rl0 (gn rfl) rfl rfl (step_as rfl rfl) trivial ?_
  refine runsL_nil ?_
  refine runs_cond false (ev_mk rfl) (fun h_ => nomatch h_) (fun _ => ?_)
  refine runs_seq ?_
  refine runs_region ?_
  refine' rl0 (gn rfl) rfl rfl (step_load_all rfl rfl F.agg24 ?hl) ⟨?hb, trivial⟩ ?_
  case hb => repeat (first | exact uE | refine uN (by omega) ?_ | assumption | exact hd _ (by omega) | fail)
  case hl => first | rfl | (simp; done) | (first | (simp; done) | (simp; omega) | omega)
  refine rl0 (gn rfl) rfl rfl (step_callc rfl Try.func10 rfl rfl rfl (emp_c) (by repeat (first | exact .nil | refine .cons ?_ ?_ | exact VLe.refl _ | exact VLe.own_sl _ _ _ | exact VLe.fl_sl _ _ | exact VLe.nil_sl _ | exact VLe.nil_fl _ | refine VLe.agg ?_))) trivial ?_
  refine rl_know (d := 11) (c := false) rfl (k2) ?_
  refine rl0 (gn rfl) rfl rfl (step_as rfl rfl) trivial ?_
  refine runsL_nil ?_
  refine runs_cond false (ev_mk rfl) (fun h_ => nomatch h_) (fun _ => ?_)
  refine runs_skip ?_
  refine runs_seq ?_
  refine runs_region ?_
  refine rl0 (gn rfl) rfl rfl (step_fieldAddr (off := 0) rfl (ev_mk rfl) Try.underlying24 rfl F.sz22 rfl) trivial ?_
  refine' rl0 (gn rfl) rfl rfl (step_load_one rfl (ev_mk rfl) F.one22 ?hv) ⟨?hb, trivial⟩ ?_
  case hb => repeat (first | exact uE | refine uN (by omega) ?_ | assumption | exact hd _ (by omega) | fail)
  case hv => rfl
  refine rl0 (gn rfl) rfl rfl (step_fieldAddr (off := 0) rfl (ev_mk rfl) Try.underlying24 rfl F.sz22 rfl) trivial ?_
  refine' rl0 (gn rfl) rfl rfl (step_load_one rfl (ev_mk rfl) F.one22 ?hv) ⟨?hb, trivial⟩ ?_
  case hb => repeat (first | exact uE | refine uN (by omega) ?_ | assumption | exact hd _ (by omega) | fail)
  case hv => rfl
  refine rl0 (gn rfl) rfl rfl (step_min rfl (ev_mk rfl) (ev_mk rfl)) trivial ?_
  refine rl0 (gn rfl) rfl rfl (step_fieldAddr (off := 1) rfl (ev_mk rfl) Try.underlying24 rfl F.sz22 rfl) trivial ?_
  refine' rl0 (gn rfl) rfl rfl (step_load_one rfl (ev_mk rfl) F.one22 ?hv) ⟨?hb, trivial⟩ ?_
  case hb => repeat (first | exact uE | refine uN (by omega) ?_ | assumption | exact hd _ (by omega) | fail)
  case hv => rfl
  refine rl0 (gn rfl) rfl rfl (step_fieldAddr (off := 1) rfl (ev_mk rfl) Try.underlying24 rfl F.sz22 rfl) trivial ?_
  refine' rl0 (gn rfl) rfl rfl (step_load_one rfl (ev_mk rfl) F.one22 ?hv) ⟨?hb, trivial⟩ ?_
  case hb => repeat (first | exact uE | refine uN (by omega) ?_ | assumption | exact hd _ (by omega) | fail)
  case hv => rfl
  refine rl0 (gn rfl) rfl rfl (step_min rfl (ev_mk rfl) (ev_mk rfl)) trivial ?_
  refine rl0 (gn rfl) rfl rfl (step_fieldAddr (off := 2) rfl (ev_mk rfl) Try.underlying24 rfl F.sz22 rfl) trivial ?_
  refine' rl0 (gn rfl) rfl rfl (step_load_one rfl (ev_mk rfl) F.one22 ?hv) ⟨?hb, trivial⟩ ?_
  case hb => repeat (first | exact uE | refine uN (by omega) ?_ | assumption | exact hd _ (by omega) | fail)
  case hv => rfl
  refine rl0 (gn rfl) rfl rfl (step_fieldAddr (off := 2) rfl (ev_mk rfl) Try.underlying24 rfl F.sz22 rfl) trivial ?_
  refine' rl0 (gn rfl) rfl rfl (step_load_one rfl (ev_mk rfl) F.one22 ?hv) ⟨?hb, trivial⟩ ?_
  case hb => repeat (first | exact uE | refine uN (by omega) ?_ | assumption | exact hd _ (by omega) | fail)
  case hv => rfl
  refine rl0 (gn rfl) rfl rfl (step_max rfl (ev_mk rfl) (ev_mk rfl)) trivial ?_
  refine rl0 (gn rfl) rfl rfl (step_fieldAddr (off := 3) rfl (ev_mk rfl) Try.underlying24 rfl F.sz22 rfl) trivial ?_
  refine' rl0 (gn rfl) rfl rfl (step_load_one rfl (ev_mk rfl) F.one22 ?hv) ⟨?hb, trivial⟩ ?_
  case hb => repeat (first | exact uE | refine uN (by omega) ?_ | assumption | exact hd _ (by omega) | fail)
  case hv => rfl
  refine rl0 (gn rfl) rfl rfl (step_fieldAddr (off := 3) rfl (ev_mk rfl) Try.underlying24 rfl F.sz22 rfl) trivial ?_
  refine' rl0 (gn rfl) rfl rfl (step_load_one rfl (ev_mk rfl) F.one22 ?hv) ⟨?hb, trivial⟩ ?_
  case hb => repeat (first | exact uE | refine uN (by omega) ?_ | assumption | exact hd _ (by omega) | fail)
  case hv => rfl
  refine rl0 (gn rfl) rfl rfl (step_max rfl (ev_mk rfl) (ev_mk rfl)) trivial ?_
  refine rl0 (gn rfl) rfl rfl (step_build (ss := [1, 1, 1, 1]) (zs := [.int .u32 0, .int .u32 0, .int .u32 0, .int .u32 0]) rfl Try.underlying24 (by kernel_rfl) F.zero24 rfl rfl rfl) trivial ?_
  refine' rls (gn rfl) rfl (step_storeA rfl rfl rfl rfl F.agg24 ?hm ?hl) ⟨?hb, trivial⟩ ?hk ?_
  case hb => repeat (first | exact uE | refine uN (by omega) ?_ | assumption | exact hd _ (by omega) | fail)
  case hm => first | rfl | (simp; done) | (first | (simp; done) | (simp; omega) | omega)
  case hl => first | rfl | (simp; done) | (first | (simp; done) | (simp; omega) | omega)
  case hk => omega
  refine runsL_nil ?_
  refine runs_ret ?_
  refine ⟨by first | exact .inr rfl | exact .inl rfl, fin_mkg (resc rfl (by repeat (first | exact uE | refine uN (by omega) ?_ | assumption | exact hd _ (by omega) | fail)) F.agg24 (by first | rfl | (simp; done) | (first | (simp; done) | (simp; omega) | omega)) res0) ?_ ?_ ?_ ?_ ?_⟩
  · (repeat' (first | exact VLe.refl _ | exact VLe.own_sl _ _ _ | exact VLe.fl_sl _ _ | exact VLe.nil_sl _ | exact VLe.nil_fl _ | exact VLes.refl _ | exact .nil | refine VLe.tup ?_ | refine VLe.agg ?_ | refine .cons ?_ ?_ | (rw [Int.natCast_add]; exact VLe.refl _) | exact vle_int (by omega) | exact vle_bool (by first | rfl | assumption | (simp_all; done)) | fail))
  · repeat (first | exact trivial | assumption | omega | (refine bdR_map (fun _ => ?_)) | (refine bdL_map (fun _ => ?_)) | refine ⟨?_, ?_⟩ | fail)
  · intro k_ hk_; exact ble (by repeat (first | exact rfl | refine uN (by omega) ?_ | assumption | fail))
  · intro p hp; cases hp
  · repeat (first | exact trivial | assumption | omega | (refine bdR_map (fun _ => ?_)) | (refine bdL_map (fun _ => ?_)) | refine ⟨?_, ?_⟩ | fail)
end Go.Proofs.Ytcemdkppkklfnaa
