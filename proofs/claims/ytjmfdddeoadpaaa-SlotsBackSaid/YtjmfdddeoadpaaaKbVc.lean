/- Walks by the logic of values. -/
import Derived.Test.YtjmfdddeoadpaaaKbVmT
import Derived.Test.YtjmfdddeoadpaaaKbVmP
import Derived.Test.YtjmfdddeoadpaaaKbVmW
import Derived.Test.YtjmfdddeoadpaaaKbVa
import Derived.Test.YtjmfdddeoadpaaaKbVb
namespace Go.Proofs.Ytjmfdddeoadpaaa
open Go.Vm
set_option linter.unusedVariables false
set_option linter.unusedSimpArgs false
attribute [local irreducible] pgC
theorem step_maxr {P : Program} {o : Oper} {t : Nat → V} {x y : Operand} {tys : Array TypeId} {k : IntKind} {a b r : Int} (ho : o.op = .call { callee := .builtin .max, args := #[x, y], argTypes := tys }) (hx : ev t x = .sc (.int k a)) (hy : ev t y = .sc (.int k b)) (h : (if b > a then b else a) = r) : StepOK P o t [] [] (.sc (.int k r)) := h ▸ step_max ho hx hy
abbrev nA (f : Pf) : Nat := max (f 0) (fr f + 1)
def addC (f : Pf) (b : List Int) : Int := if 224 < b.length then 9 else if roomR (ab f) < b.length then 6 else 0
def addP (f : Pf) (b : List Int) : Pf := if 224 < b.length then f else if roomR (ab f) < b.length then f else addF f b
def addI (f : Pf) (b : List Int) : Int := if 224 < b.length then 0 else if roomR (ab f) < b.length then 0 else fr f
theorem add1 {f : Pf} {b : List Int} (h : (b.length : Int) > 224) : addP f b = f ∧ addC f b = 9 ∧ addI f b = 0 := ⟨if_pos (by omega), if_pos (by omega), if_pos (by omega)⟩
theorem add2 {f : Pf} {b : List Int} (h : ¬ (b.length : Int) > 224) (h2 : (b.length : Int) > roomR (ab f)) : addP f b = f ∧ addC f b = 6 ∧ addI f b = 0 := ⟨(if_neg (by omega)).trans (if_pos h2), (if_neg (by omega)).trans (if_pos h2), (if_neg (by omega)).trans (if_pos h2)⟩
theorem add3 {f : Pf} {b : List Int} (h : ¬ (b.length : Int) > 224) (h2 : ¬ (b.length : Int) > roomR (ab f)) : addP f b = addF f b ∧ addC f b = 0 ∧ addI f b = fr f := ⟨(if_neg (by omega)).trans (if_neg h2), (if_neg (by omega)).trans (if_neg h2), (if_neg (by omega)).trans (if_neg h2)⟩
theorem add_fit {f : Pf} {b : List Int} (hs : Snd f) (h : ¬ (b.length : Int) > roomR (ab f)) : nA f ≤ 32 ∧ (b.length : Int) ≤ 222 - 2 * (nA f : Int) - usd f (f 0) := by
  have hfl := fr_le f
  have hr := room_eq hs (n := nA f) (by unfold nA; split <;> omega)
  rw [hr] at h
  split at h
  · omega
  · omega
theorem addF_p {f : Pf} {b : List Int} (h : (f 1 : Int) - b.length < 2 + 2 * (nA f : Nat)) : addF f b = plc (pk f) b (fr f) (nA f) (pk f 1 - b.length) := by unfold addF; simp only []; rw [if_pos h]
theorem addF_n {f : Pf} {b : List Int} (h : ¬ (f 1 : Int) - b.length < 2 + 2 * (nA f : Nat)) : addF f b = plc f b (fr f) (nA f) (f 1 - b.length) := by unfold addF; simp only []; rw [if_neg h]
set_option maxRecDepth 100000 in
set_option maxHeartbeats 4000000 in
theorem add_c (f : Pf) (hs : Snd f) (b : List Int) (hb : Byts b) (hl : b.length ≤ 1000) : Does Try.prog 17 [.agg (pgC f), .sl 1 (bytesV b)] [] [] (.tup [.agg (pgC (addP f b)), .sc (.int .i64 (addI f b)), .sc (.int .i64 (addC f b))]) := by
  refine does_mkg 40 Try.func17 rfl rfl rfl (fun n B bx hd hpre hup hvs hbx hgx => ?_)
  have hl32_ := hs.l32
  have hlo1_ := hs.lo1
  have hlo2_ := hs.lo2
  have hu_ := usd_le hs
  have hfl_ := fr_le f
  have hnA_ : nA f = max (f 0) (fr f + 1) := rfl
  refine runs_seq ?_
  refine runs_region ?_
  refine rl1 (gn rfl) rfl rfl (step_box_agg (k := n + 0) rfl rfl) ⟨by repeat (first | exact uE | refine uN (by omega) ?_ | assumption | exact hd _ (by omega) | fail), trivial⟩ (by omega) ?_
  refine rl1 (gn rfl) rfl rfl (step_allocc (k := n + 1) (zs := (List.replicate 224 (.int .u8 0))) (cs := List.replicate 224 (.sc (.int .u8 0))) rfl F.zero27 (by first | rfl | simp) (by first | rfl | decide | simp) (by first | rfl | simp)) ⟨by repeat (first | exact uE | refine uN (by omega) ?_ | assumption | exact hd _ (by omega) | fail), trivial⟩ (by omega) ?_
  refine rl0 (gn rfl) rfl rfl (step_as rfl rfl) trivial ?_
  refine rl0 (gn rfl) rfl rfl (step_as rfl rfl) trivial ?_
  refine runsL_nil ?_
  refine runs_seq ?_
  refine runs_seq ?_
  refine runs_region ?_
  refine rl0 (gn rfl) rfl rfl (step_mv rfl rfl) trivial ?_
  refine rl0 (gn rfl) rfl rfl (step_len (m := b.length) rfl rfl (ev_mk rfl) (.inl ⟨⟨_, Try.underlying32⟩, .inl ⟨_, _, .inl rfl, List.length_map _⟩⟩)) trivial ?_
  refine rl_gtr (gn rfl) rfl rfl rfl rfl rfl (fun h1 => ?_) (fun h1 => ?_)
  · skip
    obtain ⟨ha1_, ha2_, ha3_⟩ := add1 (f := f) (b := b) (by omega)
    refine runsL_nil ?_
    refine runs_cond true (ev_mk rfl) (fun _ => ?_) (fun h_ => nomatch h_)
    refine runs_seq ?_
    refine runs_region ?_
    refine' rl0 (gn rfl) rfl rfl (step_load_all rfl rfl F.agg27 ?hl) ⟨?hb, trivial⟩ ?_
    case hb => repeat (first | exact uE | refine uN (by omega) ?_ | assumption | exact hd _ (by omega) | fail)
    case hl => first | rfl | (simp; done) | (first | exact pgC_len _ | (simp; done) | (rw [pgC_len]; omega) | omega)
    refine' rls (gn rfl) rfl (step_storeA rfl rfl rfl rfl F.agg27 ?hm ?hl) ⟨?hb, trivial⟩ ?hk ?_
    case hb => repeat (first | exact uE | refine uN (by omega) ?_ | assumption | exact hd _ (by omega) | fail)
    case hm => first | rfl | (simp; done) | (first | exact pgC_len _ | (simp; done) | (rw [pgC_len]; omega) | omega)
    case hl => first | rfl | (simp; done) | (first | exact pgC_len _ | (simp; done) | (rw [pgC_len]; omega) | omega)
    case hk => omega
    refine rl0 (gn rfl) rfl rfl (step_as rfl rfl) trivial ?_
    refine rl0 (gn rfl) rfl rfl (step_as rfl rfl) trivial ?_
    refine runsL_nil ?_
    refine runs_ret ?_
    refine ⟨by first | exact .inr rfl | exact .inl rfl, fin_mkg (resc rfl (by repeat (first | exact uE | refine uN (by omega) ?_ | assumption | exact hd _ (by omega) | fail)) F.agg27 (by first | rfl | (simp; done) | (first | exact pgC_len _ | (simp; done) | (rw [pgC_len]; omega) | omega)) (rest rfl (rest rfl res0))) ?_ ?_ ?_ ?_ ?_⟩
    · (repeat' (first | exact VLe.refl _ | exact VLe.own_sl _ _ _ | exact VLe.fl_sl _ _ | exact VLe.nil_sl _ | exact VLe.nil_fl _ | exact VLes.refl _ | exact .nil | refine VLe.tup ?_ | refine VLe.agg ?_ | refine .cons ?_ ?_ | (rw [Int.natCast_add]; exact VLe.refl _) | exact vle_int (by omega) | exact vle_bool (by first | rfl | assumption | (simp_all; done) | fail) | ((rw [ha1_]; exact VLes.refl _)) | (exact vle_int (by omega)) | fail))
    · first | ((repeat (first | exact trivial | exact bd_pgA _ _ | exact bd_pg _ _ | assumption | omega | refine ⟨?_, ?_⟩ | fail)); done) | (repeat (first | exact trivial | assumption | omega | (refine bdR_map (fun _ => ?_)) | (refine bdL_map (fun _ => ?_)) | refine ⟨?_, ?_⟩ | fail))
    · intro k_ hk_; exact ble (by repeat (first | exact rfl | refine uN (by omega) ?_ | assumption | fail))
    · intro p hp; cases hp
    · first | ((repeat (first | exact trivial | exact bd_pgA _ _ | exact bd_pg _ _ | assumption | omega | refine ⟨?_, ?_⟩ | fail)); done) | (repeat (first | exact trivial | assumption | omega | (refine bdR_map (fun _ => ?_)) | (refine bdL_map (fun _ => ?_)) | refine ⟨?_, ?_⟩ | fail))
  · skip
    refine runsL_nil ?_
    refine runs_cond false (ev_mk rfl) (fun h_ => nomatch h_) (fun _ => ?_)
    refine runs_skip ?_
    refine runs_seq ?_
    refine runs_seq ?_
    refine runs_region ?_
    refine rl0 (gn rfl) rfl rfl (step_mv rfl rfl) trivial ?_
    refine rl0 (gn rfl) rfl rfl (step_len (m := b.length) rfl rfl (ev_mk rfl) (.inl ⟨⟨_, Try.underlying32⟩, .inl ⟨_, _, .inl rfl, List.length_map _⟩⟩)) trivial ?_
    refine' rl0 (gn rfl) rfl rfl (step_load_all rfl rfl F.agg27 ?hl) ⟨?hb, trivial⟩ ?_
    case hb => repeat (first | exact uE | refine uN (by omega) ?_ | assumption | exact hd _ (by omega) | fail)
    case hl => first | rfl | (simp; done) | (first | exact pgC_len _ | (simp; done) | (rw [pgC_len]; omega) | omega)
    refine rl0 (gn rfl) rfl rfl (step_callc rfl Try.func21 rfl rfl rfl (room_c f hs) (by repeat (first | exact .nil | refine .cons ?_ ?_ | exact VLe.refl _ | exact VLe.own_sl _ _ _ | exact VLe.fl_sl _ _ | exact VLe.nil_sl _ | exact vle_int (by omega)))) trivial ?_
    refine rl_gtr (gn rfl) rfl rfl rfl rfl rfl (fun h2 => ?_) (fun h2 => ?_)
    · skip
      obtain ⟨ha1_, ha2_, ha3_⟩ := add2 (f := f) (b := b) (by omega) (by omega)
      refine runsL_nil ?_
      refine runs_cond true (ev_mk rfl) (fun _ => ?_) (fun h_ => nomatch h_)
      refine runs_seq ?_
      refine runs_region ?_
      refine' rl0 (gn rfl) rfl rfl (step_load_all rfl rfl F.agg27 ?hl) ⟨?hb, trivial⟩ ?_
      case hb => repeat (first | exact uE | refine uN (by omega) ?_ | assumption | exact hd _ (by omega) | fail)
      case hl => first | rfl | (simp; done) | (first | exact pgC_len _ | (simp; done) | (rw [pgC_len]; omega) | omega)
      refine' rls (gn rfl) rfl (step_storeA rfl rfl rfl rfl F.agg27 ?hm ?hl) ⟨?hb, trivial⟩ ?hk ?_
      case hb => repeat (first | exact uE | refine uN (by omega) ?_ | assumption | exact hd _ (by omega) | fail)
      case hm => first | rfl | (simp; done) | (first | exact pgC_len _ | (simp; done) | (rw [pgC_len]; omega) | omega)
      case hl => first | rfl | (simp; done) | (first | exact pgC_len _ | (simp; done) | (rw [pgC_len]; omega) | omega)
      case hk => omega
      refine rl0 (gn rfl) rfl rfl (step_as rfl rfl) trivial ?_
      refine rl0 (gn rfl) rfl rfl (step_as rfl rfl) trivial ?_
      refine runsL_nil ?_
      refine runs_ret ?_
      refine ⟨by first | exact .inr rfl | exact .inl rfl, fin_mkg (resc rfl (by repeat (first | exact uE | refine uN (by omega) ?_ | assumption | exact hd _ (by omega) | fail)) F.agg27 (by first | rfl | (simp; done) | (first | exact pgC_len _ | (simp; done) | (rw [pgC_len]; omega) | omega)) (rest rfl (rest rfl res0))) ?_ ?_ ?_ ?_ ?_⟩
      · (repeat' (first | exact VLe.refl _ | exact VLe.own_sl _ _ _ | exact VLe.fl_sl _ _ | exact VLe.nil_sl _ | exact VLe.nil_fl _ | exact VLes.refl _ | exact .nil | refine VLe.tup ?_ | refine VLe.agg ?_ | refine .cons ?_ ?_ | (rw [Int.natCast_add]; exact VLe.refl _) | exact vle_int (by omega) | exact vle_bool (by first | rfl | assumption | (simp_all; done) | fail) | ((rw [ha1_]; exact VLes.refl _)) | (exact vle_int (by omega)) | fail))
      · first | ((repeat (first | exact trivial | exact bd_pgA _ _ | exact bd_pg _ _ | assumption | omega | refine ⟨?_, ?_⟩ | fail)); done) | (repeat (first | exact trivial | assumption | omega | (refine bdR_map (fun _ => ?_)) | (refine bdL_map (fun _ => ?_)) | refine ⟨?_, ?_⟩ | fail))
      · intro k_ hk_; exact ble (by repeat (first | exact rfl | refine uN (by omega) ?_ | assumption | fail))
      · intro p hp; cases hp
      · first | ((repeat (first | exact trivial | exact bd_pgA _ _ | exact bd_pg _ _ | assumption | omega | refine ⟨?_, ?_⟩ | fail)); done) | (repeat (first | exact trivial | assumption | omega | (refine bdR_map (fun _ => ?_)) | (refine bdL_map (fun _ => ?_)) | refine ⟨?_, ?_⟩ | fail))
    · skip
      obtain ⟨ha1_, ha2_, ha3_⟩ := add3 (f := f) (b := b) (by omega) (by omega)
      have hfit_ := add_fit hs (b := b) (by omega)
      refine runsL_nil ?_
      refine runs_cond false (ev_mk rfl) (fun h_ => nomatch h_) (fun _ => ?_)
      refine runs_skip ?_
      refine runs_seq ?_
      refine runs_region ?_
      refine' rl0 (gn rfl) rfl rfl (step_load_all rfl rfl F.agg27 ?hl) ⟨?hb, trivial⟩ ?_
      case hb => repeat (first | exact uE | refine uN (by omega) ?_ | assumption | exact hd _ (by omega) | fail)
      case hl => first | rfl | (simp; done) | (first | exact pgC_len _ | (simp; done) | (rw [pgC_len]; omega) | omega)
      refine rl0 (gn rfl) rfl rfl (step_callc rfl Try.func31 rfl rfl rfl (free_c f hs) (by repeat (first | exact .nil | refine .cons ?_ ?_ | exact VLe.refl _ | exact VLe.own_sl _ _ _ | exact VLe.fl_sl _ _ | exact VLe.nil_sl _ | exact vle_int (by omega)))) trivial ?_
      refine rl0 (gn rfl) rfl rfl (step_as rfl rfl) trivial ?_
      refine runsL_nil ?_
      refine runs_seq ?_
      refine runs_region ?_
      refine' rl0 (gn rfl) rfl rfl (step_load_all rfl rfl F.agg27 ?hl) ⟨?hb, trivial⟩ ?_
      case hb => repeat (first | exact uE | refine uN (by omega) ?_ | assumption | exact hd _ (by omega) | fail)
      case hl => first | rfl | (simp; done) | (first | exact pgC_len _ | (simp; done) | (rw [pgC_len]; omega) | omega)
      refine rl0 (gn rfl) rfl rfl (step_callc rfl Try.func13 rfl rfl rfl (len_c f hs.b) (by repeat (first | exact .nil | refine .cons ?_ ?_ | exact VLe.refl _ | exact VLe.own_sl _ _ _ | exact VLe.fl_sl _ _ | exact VLe.nil_sl _ | exact vle_int (by omega)))) trivial ?_
      refine rl0 (gn rfl) rfl rfl (step_mv rfl rfl) trivial ?_
      refine rl0 (gn rfl) rfl rfl (step_add rfl (ev_mk rfl) (ev_mk rfl) (w64 (by omega))) trivial ?_
      refine rl0 (gn rfl) rfl rfl (step_maxr (r := (nA f : Nat)) rfl (ev_mk rfl) (ev_mk rfl) (by split <;> omega)) trivial ?_
      refine rl0 (gn rfl) rfl rfl (step_as rfl rfl) trivial ?_
      refine runsL_nil ?_
      refine runs_seq ?_
      refine runs_seq ?_
      refine runs_region ?_
      refine' rl0 (gn rfl) rfl rfl (step_load_all rfl rfl F.agg27 ?hl) ⟨?hb, trivial⟩ ?_
      case hb => repeat (first | exact uE | refine uN (by omega) ?_ | assumption | exact hd _ (by omega) | fail)
      case hl => first | rfl | (simp; done) | (first | exact pgC_len _ | (simp; done) | (rw [pgC_len]; omega) | omega)
      refine rl0 (gn rfl) rfl rfl (step_callc rfl Try.func28 rfl rfl rfl (low_c f hs.b) (by repeat (first | exact .nil | refine .cons ?_ ?_ | exact VLe.refl _ | exact VLe.own_sl _ _ _ | exact VLe.fl_sl _ _ | exact VLe.nil_sl _ | exact vle_int (by omega)))) trivial ?_
      refine rl0 (gn rfl) rfl rfl (step_mv rfl rfl) trivial ?_
      refine rl0 (gn rfl) rfl rfl (step_len (m := b.length) rfl rfl (ev_mk rfl) (.inl ⟨⟨_, Try.underlying32⟩, .inl ⟨_, _, .inl rfl, List.length_map _⟩⟩)) trivial ?_
      refine rl0 (gn rfl) rfl rfl (step_sub rfl (ev_mk rfl) (ev_mk rfl) (w64 (by omega))) trivial ?_
      refine rl0 (gn rfl) rfl rfl (step_mv rfl rfl) trivial ?_
      refine rl0 (gn rfl) rfl rfl (step_mul rfl (ev_mk rfl) (ev_mk rfl) (w64 (by omega))) trivial ?_
      refine rl0 (gn rfl) rfl rfl (step_add rfl (ev_mk rfl) (ev_mk rfl) (w64 (by omega))) trivial ?_
      refine rl_lss (gn rfl) rfl rfl rfl rfl rfl (fun h3 => ?_) (fun h3 => ?_)
      · skip
        obtain ⟨pg_, pg0_, pg1_, pg2_, pg3_, pg4_, pg5_⟩ := pack_ hs
        rw [addF_p (by omega)] at ha1_
        refine runsL_nil ?_
        refine runs_cond true (ev_mk rfl) (fun _ => ?_) (fun h_ => nomatch h_)
        refine runs_region ?_
        refine' rl0 (gn rfl) rfl rfl (step_load_all rfl rfl F.agg27 ?hl) ⟨?hb, trivial⟩ ?_
        case hb => repeat (first | exact uE | refine uN (by omega) ?_ | assumption | exact hd _ (by omega) | fail)
        case hl => first | rfl | (simp; done) | (first | exact pgC_len _ | (simp; done) | (rw [pgC_len]; omega) | omega)
        refine rl0 (gn rfl) rfl rfl (step_callc rfl Try.func16 rfl rfl rfl (pack_c f hs) (by repeat (first | exact .nil | refine .cons ?_ ?_ | exact VLe.refl _ | exact VLe.own_sl _ _ _ | exact VLe.fl_sl _ _ | exact VLe.nil_sl _ | exact vle_int (by omega)))) trivial ?_
        refine' rls (gn rfl) rfl (step_storeA rfl rfl rfl rfl F.agg27 ?hm ?hl) ⟨?hb, trivial⟩ ?hk ?_
        case hb => repeat (first | exact uE | refine uN (by omega) ?_ | assumption | exact hd _ (by omega) | fail)
        case hm => first | rfl | (simp; done) | (first | exact pgC_len _ | (simp; done) | (rw [pgC_len]; omega) | omega)
        case hl => first | rfl | (simp; done) | (first | exact pgC_len _ | (simp; done) | (rw [pgC_len]; omega) | omega)
        case hk => omega
        refine runsL_nil ?_
        refine runs_seq ?_
        refine runs_region ?_
        refine' rl0 (gn rfl) rfl rfl (step_load_all rfl rfl F.agg27 ?hl) ⟨?hb, trivial⟩ ?_
        case hb => repeat (first | exact uE | refine uN (by omega) ?_ | assumption | exact hd _ (by omega) | fail)
        case hl => first | rfl | (simp; done) | (first | exact pgC_len _ | (simp; done) | (rw [pgC_len]; omega) | omega)
        refine rl0 (gn rfl) rfl rfl (step_callc rfl Try.func28 rfl rfl rfl (low_c (pk f) pg_.b) (by repeat (first | exact .nil | refine .cons ?_ ?_ | exact VLe.refl _ | exact VLe.own_sl _ _ _ | exact VLe.fl_sl _ _ | exact VLe.nil_sl _ | exact vle_int (by omega)))) trivial ?_
        refine rl0 (gn rfl) rfl rfl (step_mv rfl rfl) trivial ?_
        refine rl0 (gn rfl) rfl rfl (step_len (m := b.length) rfl rfl (ev_mk rfl) (.inl ⟨⟨_, Try.underlying32⟩, .inl ⟨_, _, .inl rfl, List.length_map _⟩⟩)) trivial ?_
        refine rl0 (gn rfl) rfl rfl (step_sub rfl (ev_mk rfl) (ev_mk rfl) (w64 (by omega))) trivial ?_
        refine rl0 (gn rfl) rfl rfl (step_as rfl rfl) trivial ?_
        refine runsL_nil ?_
        refine runs_seq ?_
        refine runs_region ?_
        refine rl0 (gn rfl) rfl rfl (step_fieldAddr (off := 0) rfl (ev_mk rfl) Try.underlying27 rfl F.sz25 rfl) trivial ?_
        refine rl0 (gn rfl) rfl rfl (step_mv rfl rfl) trivial ?_
        refine rl0 (gn rfl) rfl rfl (step_sl_arr (a := ((pk f) 1 - b.length)) (h := 224) (m := 224) (q' := (sQ ((pk f) 1 - b.length))) (n' := (224 - ((pk f) 1 - b.length))) (c' := 224 - ((pk f) 1 - b.length)) rfl (ev_mk rfl) Try.underlying25 F.sz5 (bndLo_nat (a := ((pk f) 1 - b.length)) rfl (by first | omega | (split <;> omega) | (first | exact pgC_len _ | (simp; done) | (rw [pgC_len]; omega) | omega))) bndHi_none bndHi_none (fun h_ => by first | rfl | nomatch h_) (by omega) (by omega) (by omega) (sQ_hq ((pk f) 1 - b.length)) (by first | rfl | omega) (by first | rfl | omega)) trivial ?_
        refine rl0 (gn rfl) rfl rfl (step_mv rfl rfl) trivial ?_
        refine' rl1 (gn rfl) rfl rfl (step_copy (m := b.length) (cs' := pgC (cpB (pk f) ((pk f) 1 - b.length) b)) rfl rfl Try.underlying32 F.sz5 (ev_mk rfl) (ev_mk rfl) (gives_sl (.inl rfl)) ?hmn ?hl ?hcs) ⟨?hb, trivial⟩ (by omega) ?_
        case hb => repeat (first | exact uE | refine uN (by omega) ?_ | assumption | exact hd _ (by omega) | fail)
        case hmn => (rw [bytesV_len]; omega)
        case hl => (rw [pgC_len]; have q_ := sQ_le (a := ((pk f) 1 - b.length)) (n := 224 - ((pk f) 1 - b.length)) (by omega); omega)
        case hcs => (rw [List.take_of_length_le (by rw [bytesV_len]; omega)]; exact pg_cpQ hb (by omega))
        refine runsL_nil ?_
        refine runs_seq ?_
        refine runs_region ?_
        refine rl0 (gn rfl) rfl rfl (step_mv rfl rfl) trivial ?_
        refine rl0 (gn rfl) rfl rfl (step_conv_id rfl rfl Try.underlying3 Try.underlying5 (wu8 (by omega))) trivial ?_
        refine rl0 (gn rfl) rfl rfl (step_mv rfl rfl) trivial ?_
        refine rl0 (gn rfl) rfl rfl (step_conv_id rfl rfl Try.underlying3 Try.underlying5 (wu8 (by omega))) trivial ?_
        refine rl0 (gn rfl) rfl rfl (step_fieldAddr (off := 0) rfl (ev_mk rfl) Try.underlying27 rfl F.sz25 rfl) trivial ?_
        refine rl0 (gn rfl) rfl rfl (step_index_arr rfl (ev_mk rfl) (ev_mk rfl) Try.underlying25 F.sz5 (by omega) (by omega)) trivial ?_
        refine' rls (gn rfl) rfl (step_store1 (cs' := pgC (upN (cpB (pk f) ((pk f) 1 - b.length) b) 0 (nA f))) rfl rfl rfl rfl F.one5 rfl rfl ?hl ?hc) ⟨?hb, trivial⟩ ?hk ?_
        case hb => repeat (first | exact uE | refine uN (by omega) ?_ | assumption | exact hd _ (by omega) | fail)
        case hl => (rw [pgC_len]; omega)
        case hc => exact pg_set (by rfl)
        case hk => omega
        refine rl0 (gn rfl) rfl rfl (step_fieldAddr (off := 0) rfl (ev_mk rfl) Try.underlying27 rfl F.sz25 rfl) trivial ?_
        refine rl0 (gn rfl) rfl rfl (step_index_arr rfl (ev_mk rfl) (ev_mk rfl) Try.underlying25 F.sz5 (by omega) (by omega)) trivial ?_
        refine' rls (gn rfl) rfl (step_store1 (cs' := pgC (upN (upN (cpB (pk f) ((pk f) 1 - b.length) b) 0 (nA f)) 1 ((pk f) 1 - b.length))) rfl rfl rfl rfl F.one5 rfl rfl ?hl ?hc) ⟨?hb, trivial⟩ ?hk ?_
        case hb => repeat (first | exact uE | refine uN (by omega) ?_ | assumption | exact hd _ (by omega) | fail)
        case hl => (rw [pgC_len]; omega)
        case hc => (rw [show (((pk f) 1 : Nat) : Int) - (b.length : Int) = ((((pk f) 1 - b.length) : Nat) : Int) by omega]; exact pg_set (by rfl))
        case hk => omega
        refine runsL_nil ?_
        refine runs_seq ?_
        refine runs_region ?_
        refine rl0 (gn rfl) rfl rfl (step_mv rfl rfl) trivial ?_
        refine rl0 (gn rfl) rfl rfl (step_mv rfl rfl) trivial ?_
        refine rl0 (gn rfl) rfl rfl (step_mv rfl rfl) trivial ?_
        refine rl0 (gn rfl) rfl rfl (step_len (m := b.length) rfl rfl (ev_mk rfl) (.inl ⟨⟨_, Try.underlying32⟩, .inl ⟨_, _, .inl rfl, List.length_map _⟩⟩)) trivial ?_
        refine rl1 (gn rfl) rfl rfl (step_callc rfl Try.func30 rfl rfl rfl (set_c (upN (upN (cpB (pk f) ((pk f) 1 - b.length) b) 0 (nA f)) 1 ((pk f) 1 - b.length)) (n + 0) (fr f) ((pk f) 1 - b.length) b.length (by omega) (by omega) (by omega)) (by repeat (first | exact .nil | refine .cons ?_ ?_ | exact VLe.refl _ | exact VLe.own_sl _ _ _ | exact VLe.fl_sl _ _ | exact VLe.nil_sl _ | exact vle_int (by omega)))) ⟨by repeat (first | exact uE | refine uN (by omega) ?_ | assumption | exact hd _ (by omega) | fail), trivial⟩ (by omega) ?_
        refine runsL_nil ?_
        refine runs_seq ?_
        refine runs_region ?_
        refine' rl0 (gn rfl) rfl rfl (step_load_all rfl rfl F.agg27 ?hl) ⟨?hb, trivial⟩ ?_
        case hb => repeat (first | exact uE | refine uN (by omega) ?_ | assumption | exact hd _ (by omega) | fail)
        case hl => first | rfl | (simp; done) | (first | exact pgC_len _ | (simp; done) | (rw [pgC_len]; omega) | omega)
        refine rl0 (gn rfl) rfl rfl (step_mv rfl rfl) trivial ?_
        refine' rls (gn rfl) rfl (step_storeA rfl rfl rfl rfl F.agg27 ?hm ?hl) ⟨?hb, trivial⟩ ?hk ?_
        case hb => repeat (first | exact uE | refine uN (by omega) ?_ | assumption | exact hd _ (by omega) | fail)
        case hm => first | rfl | (simp; done) | (first | exact pgC_len _ | (simp; done) | (rw [pgC_len]; omega) | omega)
        case hl => first | rfl | (simp; done) | (first | exact pgC_len _ | (simp; done) | (rw [pgC_len]; omega) | omega)
        case hk => omega
        refine rl0 (gn rfl) rfl rfl (step_as rfl rfl) trivial ?_
        refine rl0 (gn rfl) rfl rfl (step_as rfl rfl) trivial ?_
        refine runsL_nil ?_
        refine runs_ret ?_
        refine ⟨by first | exact .inr rfl | exact .inl rfl, fin_mkg (resc rfl (by repeat (first | exact uE | refine uN (by omega) ?_ | assumption | exact hd _ (by omega) | fail)) F.agg27 (by first | rfl | (simp; done) | (first | exact pgC_len _ | (simp; done) | (rw [pgC_len]; omega) | omega)) (rest rfl (rest rfl res0))) ?_ ?_ ?_ ?_ ?_⟩
        · (repeat' (first | exact VLe.refl _ | exact VLe.own_sl _ _ _ | exact VLe.fl_sl _ _ | exact VLe.nil_sl _ | exact VLe.nil_fl _ | exact VLes.refl _ | exact .nil | refine VLe.tup ?_ | refine VLe.agg ?_ | refine .cons ?_ ?_ | (rw [Int.natCast_add]; exact VLe.refl _) | exact vle_int (by omega) | exact vle_bool (by first | rfl | assumption | (simp_all; done) | fail) | ((rw [ha1_]; exact VLes.refl _)) | (exact vle_int (by omega)) | fail))
        · first | ((repeat (first | exact trivial | exact bd_pgA _ _ | exact bd_pg _ _ | assumption | omega | refine ⟨?_, ?_⟩ | fail)); done) | (repeat (first | exact trivial | assumption | omega | (refine bdR_map (fun _ => ?_)) | (refine bdL_map (fun _ => ?_)) | refine ⟨?_, ?_⟩ | fail))
        · intro k_ hk_; exact ble (by repeat (first | exact rfl | refine uN (by omega) ?_ | assumption | fail))
        · intro p hp; cases hp
        · first | ((repeat (first | exact trivial | exact bd_pgA _ _ | exact bd_pg _ _ | assumption | omega | refine ⟨?_, ?_⟩ | fail)); done) | (repeat (first | exact trivial | assumption | omega | (refine bdR_map (fun _ => ?_)) | (refine bdL_map (fun _ => ?_)) | refine ⟨?_, ?_⟩ | fail))
      · skip
        rw [addF_n (by omega)] at ha1_
        refine runsL_nil ?_
        refine runs_cond false (ev_mk rfl) (fun h_ => nomatch h_) (fun _ => ?_)
        refine runs_skip ?_
        refine runs_seq ?_
        refine runs_region ?_
        refine' rl0 (gn rfl) rfl rfl (step_load_all rfl rfl F.agg27 ?hl) ⟨?hb, trivial⟩ ?_
        case hb => repeat (first | exact uE | refine uN (by omega) ?_ | assumption | exact hd _ (by omega) | fail)
        case hl => first | rfl | (simp; done) | (first | exact pgC_len _ | (simp; done) | (rw [pgC_len]; omega) | omega)
        refine rl0 (gn rfl) rfl rfl (step_callc rfl Try.func28 rfl rfl rfl (low_c f hs.b) (by repeat (first | exact .nil | refine .cons ?_ ?_ | exact VLe.refl _ | exact VLe.own_sl _ _ _ | exact VLe.fl_sl _ _ | exact VLe.nil_sl _ | exact vle_int (by omega)))) trivial ?_
        refine rl0 (gn rfl) rfl rfl (step_mv rfl rfl) trivial ?_
        refine rl0 (gn rfl) rfl rfl (step_len (m := b.length) rfl rfl (ev_mk rfl) (.inl ⟨⟨_, Try.underlying32⟩, .inl ⟨_, _, .inl rfl, List.length_map _⟩⟩)) trivial ?_
        refine rl0 (gn rfl) rfl rfl (step_sub rfl (ev_mk rfl) (ev_mk rfl) (w64 (by omega))) trivial ?_
        refine rl0 (gn rfl) rfl rfl (step_as rfl rfl) trivial ?_
        refine runsL_nil ?_
        refine runs_seq ?_
        refine runs_region ?_
        refine rl0 (gn rfl) rfl rfl (step_fieldAddr (off := 0) rfl (ev_mk rfl) Try.underlying27 rfl F.sz25 rfl) trivial ?_
        refine rl0 (gn rfl) rfl rfl (step_mv rfl rfl) trivial ?_
        refine rl0 (gn rfl) rfl rfl (step_sl_arr (a := (f 1 - b.length)) (h := 224) (m := 224) (q' := (sQ (f 1 - b.length))) (n' := (224 - (f 1 - b.length))) (c' := 224 - (f 1 - b.length)) rfl (ev_mk rfl) Try.underlying25 F.sz5 (bndLo_nat (a := (f 1 - b.length)) rfl (by first | omega | (split <;> omega) | (first | exact pgC_len _ | (simp; done) | (rw [pgC_len]; omega) | omega))) bndHi_none bndHi_none (fun h_ => by first | rfl | nomatch h_) (by omega) (by omega) (by omega) (sQ_hq (f 1 - b.length)) (by first | rfl | omega) (by first | rfl | omega)) trivial ?_
        refine rl0 (gn rfl) rfl rfl (step_mv rfl rfl) trivial ?_
        refine' rl1 (gn rfl) rfl rfl (step_copy (m := b.length) (cs' := pgC (cpB f (f 1 - b.length) b)) rfl rfl Try.underlying32 F.sz5 (ev_mk rfl) (ev_mk rfl) (gives_sl (.inl rfl)) ?hmn ?hl ?hcs) ⟨?hb, trivial⟩ (by omega) ?_
        case hb => repeat (first | exact uE | refine uN (by omega) ?_ | assumption | exact hd _ (by omega) | fail)
        case hmn => (rw [bytesV_len]; omega)
        case hl => (rw [pgC_len]; have q_ := sQ_le (a := (f 1 - b.length)) (n := 224 - (f 1 - b.length)) (by omega); omega)
        case hcs => (rw [List.take_of_length_le (by rw [bytesV_len]; omega)]; exact pg_cpQ hb (by omega))
        refine runsL_nil ?_
        refine runs_seq ?_
        refine runs_region ?_
        refine rl0 (gn rfl) rfl rfl (step_mv rfl rfl) trivial ?_
        refine rl0 (gn rfl) rfl rfl (step_conv_id rfl rfl Try.underlying3 Try.underlying5 (wu8 (by omega))) trivial ?_
        refine rl0 (gn rfl) rfl rfl (step_mv rfl rfl) trivial ?_
        refine rl0 (gn rfl) rfl rfl (step_conv_id rfl rfl Try.underlying3 Try.underlying5 (wu8 (by omega))) trivial ?_
        refine rl0 (gn rfl) rfl rfl (step_fieldAddr (off := 0) rfl (ev_mk rfl) Try.underlying27 rfl F.sz25 rfl) trivial ?_
        refine rl0 (gn rfl) rfl rfl (step_index_arr rfl (ev_mk rfl) (ev_mk rfl) Try.underlying25 F.sz5 (by omega) (by omega)) trivial ?_
        refine' rls (gn rfl) rfl (step_store1 (cs' := pgC (upN (cpB f (f 1 - b.length) b) 0 (nA f))) rfl rfl rfl rfl F.one5 rfl rfl ?hl ?hc) ⟨?hb, trivial⟩ ?hk ?_
        case hb => repeat (first | exact uE | refine uN (by omega) ?_ | assumption | exact hd _ (by omega) | fail)
        case hl => (rw [pgC_len]; omega)
        case hc => exact pg_set (by rfl)
        case hk => omega
        refine rl0 (gn rfl) rfl rfl (step_fieldAddr (off := 0) rfl (ev_mk rfl) Try.underlying27 rfl F.sz25 rfl) trivial ?_
        refine rl0 (gn rfl) rfl rfl (step_index_arr rfl (ev_mk rfl) (ev_mk rfl) Try.underlying25 F.sz5 (by omega) (by omega)) trivial ?_
        refine' rls (gn rfl) rfl (step_store1 (cs' := pgC (upN (upN (cpB f (f 1 - b.length) b) 0 (nA f)) 1 (f 1 - b.length))) rfl rfl rfl rfl F.one5 rfl rfl ?hl ?hc) ⟨?hb, trivial⟩ ?hk ?_
        case hb => repeat (first | exact uE | refine uN (by omega) ?_ | assumption | exact hd _ (by omega) | fail)
        case hl => (rw [pgC_len]; omega)
        case hc => (rw [show ((f 1 : Nat) : Int) - (b.length : Int) = (((f 1 - b.length) : Nat) : Int) by omega]; exact pg_set (by rfl))
        case hk => omega
        refine runsL_nil ?_
        refine runs_seq ?_
        refine runs_region ?_
        refine rl0 (gn rfl) rfl rfl (step_mv rfl rfl) trivial ?_
        refine rl0 (gn rfl) rfl rfl (step_mv rfl rfl) trivial ?_
        refine rl0 (gn rfl) rfl rfl (step_mv rfl rfl) trivial ?_
        refine rl0 (gn rfl) rfl rfl (step_len (m := b.length) rfl rfl (ev_mk rfl) (.inl ⟨⟨_, Try.underlying32⟩, .inl ⟨_, _, .inl rfl, List.length_map _⟩⟩)) trivial ?_
        refine rl1 (gn rfl) rfl rfl (step_callc rfl Try.func30 rfl rfl rfl (set_c (upN (upN (cpB f (f 1 - b.length) b) 0 (nA f)) 1 (f 1 - b.length)) (n + 0) (fr f) (f 1 - b.length) b.length (by omega) (by omega) (by omega)) (by repeat (first | exact .nil | refine .cons ?_ ?_ | exact VLe.refl _ | exact VLe.own_sl _ _ _ | exact VLe.fl_sl _ _ | exact VLe.nil_sl _ | exact vle_int (by omega)))) ⟨by repeat (first | exact uE | refine uN (by omega) ?_ | assumption | exact hd _ (by omega) | fail), trivial⟩ (by omega) ?_
        refine runsL_nil ?_
        refine runs_seq ?_
        refine runs_region ?_
        refine' rl0 (gn rfl) rfl rfl (step_load_all rfl rfl F.agg27 ?hl) ⟨?hb, trivial⟩ ?_
        case hb => repeat (first | exact uE | refine uN (by omega) ?_ | assumption | exact hd _ (by omega) | fail)
        case hl => first | rfl | (simp; done) | (first | exact pgC_len _ | (simp; done) | (rw [pgC_len]; omega) | omega)
        refine rl0 (gn rfl) rfl rfl (step_mv rfl rfl) trivial ?_
        refine' rls (gn rfl) rfl (step_storeA rfl rfl rfl rfl F.agg27 ?hm ?hl) ⟨?hb, trivial⟩ ?hk ?_
        case hb => repeat (first | exact uE | refine uN (by omega) ?_ | assumption | exact hd _ (by omega) | fail)
        case hm => first | rfl | (simp; done) | (first | exact pgC_len _ | (simp; done) | (rw [pgC_len]; omega) | omega)
        case hl => first | rfl | (simp; done) | (first | exact pgC_len _ | (simp; done) | (rw [pgC_len]; omega) | omega)
        case hk => omega
        refine rl0 (gn rfl) rfl rfl (step_as rfl rfl) trivial ?_
        refine rl0 (gn rfl) rfl rfl (step_as rfl rfl) trivial ?_
        refine runsL_nil ?_
        refine runs_ret ?_
        refine ⟨by first | exact .inr rfl | exact .inl rfl, fin_mkg (resc rfl (by repeat (first | exact uE | refine uN (by omega) ?_ | assumption | exact hd _ (by omega) | fail)) F.agg27 (by first | rfl | (simp; done) | (first | exact pgC_len _ | (simp; done) | (rw [pgC_len]; omega) | omega)) (rest rfl (rest rfl res0))) ?_ ?_ ?_ ?_ ?_⟩
        · (repeat' (first | exact VLe.refl _ | exact VLe.own_sl _ _ _ | exact VLe.fl_sl _ _ | exact VLe.nil_sl _ | exact VLe.nil_fl _ | exact VLes.refl _ | exact .nil | refine VLe.tup ?_ | refine VLe.agg ?_ | refine .cons ?_ ?_ | (rw [Int.natCast_add]; exact VLe.refl _) | exact vle_int (by omega) | exact vle_bool (by first | rfl | assumption | (simp_all; done) | fail) | ((rw [ha1_]; exact VLes.refl _)) | (exact vle_int (by omega)) | fail))
        · first | ((repeat (first | exact trivial | exact bd_pgA _ _ | exact bd_pg _ _ | assumption | omega | refine ⟨?_, ?_⟩ | fail)); done) | (repeat (first | exact trivial | assumption | omega | (refine bdR_map (fun _ => ?_)) | (refine bdL_map (fun _ => ?_)) | refine ⟨?_, ?_⟩ | fail))
        · intro k_ hk_; exact ble (by repeat (first | exact rfl | refine uN (by omega) ?_ | assumption | fail))
        · intro p hp; cases hp
        · first | ((repeat (first | exact trivial | exact bd_pgA _ _ | exact bd_pg _ _ | assumption | omega | refine ⟨?_, ?_⟩ | fail)); done) | (repeat (first | exact trivial | assumption | omega | (refine bdR_map (fun _ => ?_)) | (refine bdL_map (fun _ => ?_)) | refine ⟨?_, ?_⟩ | fail))
theorem gt_j {f : Pf} {i : Int} (h : gtB f i = true) : ∃ j : Nat, i = (j : Int) ∧ j < f 0 ∧ 0 < sA f j := by
  unfold gtB at h
  rw [Bool.and_eq_true, decide_eq_true_eq, decide_eq_true_eq] at h
  exact ⟨i.toNat, by omega, by omega, h.2⟩
def dropP (f : Pf) (i : Int) : Pf := if gtB f i = true then dropF f i.toNat else f
theorem drop1 {f : Pf} {i : Int} (h : gtB f i = false) : dropP f i = f := if_neg (by rw [h]; simp)
theorem drop2 {f : Pf} {j : Nat} (hj : j < f 0) (hp : 0 < sA f j) : dropP f (j : Int) = dropF f j := by unfold dropP; rw [if_pos (gt_yes hj hp).1, Int.toNat_natCast]
theorem up_up (h : Pf) (L M : Nat) : upN (upN h 0 L) 0 M = upN h 0 M := by funext k; unfold upN; split <;> rfl
theorem len_u (h : Pf) (L : Nat) (hb : ∀ k, h k < 256) (hL : L < 256) : Does Try.prog 13 [.agg (pgC (upN h 0 L))] [] [] (.sc (.int .i64 (L : Int))) := by
  have q := len_c (upN h 0 L) (fun k => by unfold upN; split; exact hL; exact hb k)
  rw [show upN h 0 L 0 = L from if_pos rfl] at q
  exact q
theorem slot_u (h : Pf) (L i : Nat) (hb : ∀ k, h k < 256) (hL : L < 256) (hi : i ≤ 110) : Does Try.prog 29 [.agg (pgC (upN h 0 L)), .sc (.int .i64 (i : Int))] [] [] (.tup [.sc (.int .i64 (sA h i : Int)), .sc (.int .i64 (sN h i : Int))]) := by
  have q := slot_c (upN h 0 L) (fun k => by unfold upN; split; exact hL; exact hb k) i hi
  rw [show sA (upN h 0 L) i = sA h i from if_neg (by omega), show sN (upN h 0 L) i = sN h i from if_neg (by omega)] at q
  exact q
theorem cl_st {f : Pf} {j : Nat} (h0 : clS f j 0 = f 0) : pgC (clS f j) = pgC (upN (clS f j) 0 (f 0)) := pg_ext fun k _ => by
  unfold upN; split
  · rename_i e; subst e; exact h0
  · rfl
set_option maxRecDepth 100000 in
set_option maxHeartbeats 4000000 in
theorem drop_c (f : Pf) (hs : Snd f) (i : Int) : Does Try.prog 18 [.agg (pgC f), .sc (.int .i64 i)] [] [] (.tup [.agg (pgC (dropP f i)), .sc (.bool (gtB f i))]) := by
  refine does_mkg 40 Try.func18 rfl rfl rfl (fun n B bx hd hpre hup hvs hbx hgx => ?_)
  have hl32_ := hs.l32
  have hlo1_ := hs.lo1
  have hlo2_ := hs.lo2
  have hu_ := usd_le hs
  refine runs_seq ?_
  refine runs_region ?_
  refine rl1 (gn rfl) rfl rfl (step_box_agg (k := n + 0) rfl rfl) ⟨by repeat (first | exact uE | refine uN (by omega) ?_ | assumption | exact hd _ (by omega) | fail), trivial⟩ (by omega) ?_
  refine rl1 (gn rfl) rfl rfl (step_allocc (k := n + 1) (zs := (List.replicate 224 (.int .u8 0))) (cs := List.replicate 224 (.sc (.int .u8 0))) rfl F.zero27 (by first | rfl | simp) (by first | rfl | decide | simp) (by first | rfl | simp)) ⟨by repeat (first | exact uE | refine uN (by omega) ?_ | assumption | exact hd _ (by omega) | fail), trivial⟩ (by omega) ?_
  refine rl0 (gn rfl) rfl rfl (step_as rfl rfl) trivial ?_
  refine runsL_nil ?_
  refine runs_seq ?_
  refine runs_seq ?_
  refine runs_region ?_
  refine' rl0 (gn rfl) rfl rfl (step_load_all rfl rfl F.agg27 ?hl) ⟨?hb, trivial⟩ ?_
  case hb => repeat (first | exact uE | refine uN (by omega) ?_ | assumption | exact hd _ (by omega) | fail)
  case hl => first | rfl | (simp; done) | (first | exact pgC_len _ | (simp; done) | (rw [pgC_len]; omega) | omega)
  refine rl0 (gn rfl) rfl rfl (step_mv rfl rfl) trivial ?_
  refine rl0 (gn rfl) rfl rfl (step_callc rfl Try.func15 rfl rfl rfl (get_c f hs i) (by repeat (first | exact .nil | refine .cons ?_ ?_ | exact VLe.refl _ | exact VLe.own_sl _ _ _ | exact VLe.fl_sl _ _ | exact VLe.nil_sl _ | exact vle_int (by omega)))) trivial ?_
  refine rl0 (gn rfl) rfl rfl (step_mv rfl rfl) trivial ?_
  refine rl0 (gn rfl) rfl rfl (step_extract rfl (ev_mk rfl) rfl) trivial ?_
  refine rl0 (gn rfl) rfl rfl (step_extract rfl (ev_mk rfl) rfl) trivial ?_
  refine rl0 (gn rfl) rfl rfl (step_as rfl rfl) trivial ?_
  refine rl0 (gn rfl) rfl rfl (step_as rfl rfl) trivial ?_
  refine runsL_nil ?_
  refine runs_seq ?_
  refine runs_region ?_
  refine rl0 (gn rfl) rfl rfl (step_mv rfl rfl) trivial ?_
  refine rl0 (gn rfl) rfl rfl (step_unOp rfl (ev_mk rfl) (fun _ => rfl)) trivial ?_
  refine runsL_nil ?_
  refine runs_cond _ (ev_mk rfl) (fun h1 => ?_) (fun h1 => ?_)
  · skip
    have hg_ : gtB f i = false := (by have q_ := h1; simpa using q_)
    have hdr_ := drop1 hg_
    have hem_ : false = gtB f i := hg_.symm
    refine runs_seq ?_
    refine runs_region ?_
    refine' rl0 (gn rfl) rfl rfl (step_load_all rfl rfl F.agg27 ?hl) ⟨?hb, trivial⟩ ?_
    case hb => repeat (first | exact uE | refine uN (by omega) ?_ | assumption | exact hd _ (by omega) | fail)
    case hl => first | rfl | (simp; done) | (first | exact pgC_len _ | (simp; done) | (rw [pgC_len]; omega) | omega)
    refine' rls (gn rfl) rfl (step_storeA rfl rfl rfl rfl F.agg27 ?hm ?hl) ⟨?hb, trivial⟩ ?hk ?_
    case hb => repeat (first | exact uE | refine uN (by omega) ?_ | assumption | exact hd _ (by omega) | fail)
    case hm => first | rfl | (simp; done) | (first | exact pgC_len _ | (simp; done) | (rw [pgC_len]; omega) | omega)
    case hl => first | rfl | (simp; done) | (first | exact pgC_len _ | (simp; done) | (rw [pgC_len]; omega) | omega)
    case hk => omega
    refine rl0 (gn rfl) rfl rfl (step_as rfl rfl) trivial ?_
    refine runsL_nil ?_
    refine runs_ret ?_
    refine ⟨by first | exact .inr rfl | exact .inl rfl, fin_mkg (resc rfl (by repeat (first | exact uE | refine uN (by omega) ?_ | assumption | exact hd _ (by omega) | fail)) F.agg27 (by first | rfl | (simp; done) | (first | exact pgC_len _ | (simp; done) | (rw [pgC_len]; omega) | omega)) (rest rfl res0)) ?_ ?_ ?_ ?_ ?_⟩
    · (repeat' (first | exact VLe.refl _ | exact VLe.own_sl _ _ _ | exact VLe.fl_sl _ _ | exact VLe.nil_sl _ | exact VLe.nil_fl _ | exact VLes.refl _ | exact .nil | refine VLe.tup ?_ | refine VLe.agg ?_ | refine .cons ?_ ?_ | (rw [Int.natCast_add]; exact VLe.refl _) | exact vle_int (by omega) | exact vle_bool (by first | rfl | assumption | (simp_all; done) | fail) | ((rw [hdr_]; exact VLes.refl _)) | ((rw [hdr_]; unfold dropF; rw [← hLe_]; exact VLes.refl _)) | (exact vle_bool (by first | assumption | (symm; assumption))) | fail))
    · first | ((repeat (first | exact trivial | exact bd_pgA _ _ | exact bd_pg _ _ | assumption | omega | refine ⟨?_, ?_⟩ | fail)); done) | (repeat (first | exact trivial | assumption | omega | (refine bdR_map (fun _ => ?_)) | (refine bdL_map (fun _ => ?_)) | refine ⟨?_, ?_⟩ | fail))
    · intro k_ hk_; exact ble (by repeat (first | exact rfl | refine uN (by omega) ?_ | assumption | fail))
    · intro p hp; cases hp
    · first | ((repeat (first | exact trivial | exact bd_pgA _ _ | exact bd_pg _ _ | assumption | omega | refine ⟨?_, ?_⟩ | fail)); done) | (repeat (first | exact trivial | assumption | omega | (refine bdR_map (fun _ => ?_)) | (refine bdL_map (fun _ => ?_)) | refine ⟨?_, ?_⟩ | fail))
  · skip
    have hg_ : gtB f i = true := (by have q_ := h1; simpa using q_)
    have hem_ : true = gtB f i := hg_.symm
    obtain ⟨j, hj_, hjl_, hjp_⟩ := gt_j hg_
    obtain rfl : i = (j : Int) := by exact hj_
    have hdr_ := drop2 hjl_ hjp_
    have hr_ := hs.r j hjl_ hjp_
    obtain ⟨cs_, cs0_, cs1_, cs2_, cs3_⟩ := clear_ hs hjl_ hjp_
    refine runs_skip ?_
    refine runs_seq ?_
    refine runs_region ?_
    refine' rl0 (gn rfl) rfl rfl (step_load_all rfl rfl F.agg27 ?hl) ⟨?hb, trivial⟩ ?_
    case hb => repeat (first | exact uE | refine uN (by omega) ?_ | assumption | exact hd _ (by omega) | fail)
    case hl => first | rfl | (simp; done) | (first | exact pgC_len _ | (simp; done) | (rw [pgC_len]; omega) | omega)
    refine rl0 (gn rfl) rfl rfl (step_mv rfl rfl) trivial ?_
    refine rl0 (gn rfl) rfl rfl (step_callc rfl Try.func29 rfl rfl rfl (slot_c f hs.b j (by omega)) (by repeat (first | exact .nil | refine .cons ?_ ?_ | exact VLe.refl _ | exact VLe.own_sl _ _ _ | exact VLe.fl_sl _ _ | exact VLe.nil_sl _ | exact vle_int (by omega)))) trivial ?_
    refine rl0 (gn rfl) rfl rfl (step_mv rfl rfl) trivial ?_
    refine rl0 (gn rfl) rfl rfl (step_extract rfl (ev_mk rfl) rfl) trivial ?_
    refine rl0 (gn rfl) rfl rfl (step_extract rfl (ev_mk rfl) rfl) trivial ?_
    refine rl0 (gn rfl) rfl rfl (step_as rfl rfl) trivial ?_
    refine rl0 (gn rfl) rfl rfl (step_as rfl rfl) trivial ?_
    refine runsL_nil ?_
    refine runs_seq ?_
    refine runs_region ?_
    refine rl0 (gn rfl) rfl rfl (step_fieldAddr (off := 0) rfl (ev_mk rfl) Try.underlying27 rfl F.sz25 rfl) trivial ?_
    refine rl0 (gn rfl) rfl rfl (step_mv rfl rfl) trivial ?_
    refine rl0 (gn rfl) rfl rfl (step_mv rfl rfl) trivial ?_
    refine rl0 (gn rfl) rfl rfl (step_mv rfl rfl) trivial ?_
    refine rl0 (gn rfl) rfl rfl (step_add rfl (ev_mk rfl) (ev_mk rfl) (w64 (by omega))) trivial ?_
    refine rl0 (gn rfl) rfl rfl (step_sl_arr (a := (sA f j)) (h := (sA f j + sN f j)) (m := 224) (q' := (sQ (sA f j))) (n' := (sN f j)) (c' := 224 - (sA f j)) rfl (ev_mk rfl) Try.underlying25 F.sz5 (bndLo_nat (a := (sA f j)) rfl (by first | omega | (split <;> omega) | (first | exact pgC_len _ | (simp; done) | (rw [pgC_len]; omega) | omega))) (bndHi_nat (a := (sA f j + sN f j)) rfl (by first | omega | (split <;> omega) | (first | exact pgC_len _ | (simp; done) | (rw [pgC_len]; omega) | omega))) bndHi_none (fun h_ => by first | rfl | nomatch h_) (by omega) (by omega) (by omega) (sQ_hq (sA f j)) (by first | rfl | omega) (by first | rfl | omega)) trivial ?_
    refine' rls (gn rfl) rfl (step_clear (cs' := pgC (clr f (sA f j) (sN f j))) rfl rfl Try.underlying32 F.zero5 rfl rfl (ev_mk rfl) ?hl ?hcs) ⟨?hb, trivial⟩ (by omega) ?_
    case hb => repeat (first | exact uE | refine uN (by omega) ?_ | assumption | exact hd _ (by omega) | fail)
    case hl => (rw [pgC_len]; have q_ := sQ_le hr_.2; omega)
    case hcs => exact pg_clrQ hr_.2
    refine runsL_nil ?_
    refine runs_seq ?_
    refine runs_region ?_
    refine rl0 (gn rfl) rfl rfl (step_mv rfl rfl) trivial ?_
    refine rl1 (gn rfl) rfl rfl (step_callc rfl Try.func30 rfl rfl rfl (set_c (clr f (sA f j) (sN f j)) (n + 0) j 0 0 (by omega) (by omega) (by omega)) (by repeat (first | exact .nil | refine .cons ?_ ?_ | exact VLe.refl _ | exact VLe.own_sl _ _ _ | exact VLe.fl_sl _ _ | exact VLe.nil_sl _ | exact vle_int (by omega)))) ⟨by repeat (first | exact uE | refine uN (by omega) ?_ | assumption | exact hd _ (by omega) | fail), trivial⟩ (by omega) ?_
    refine runsL_nil ?_
    refine runs_seq ?_
    refine runs_block ?_
    have hs0_ : pgC (setS (clr f (sA f j) (sN f j)) j 0 0) = pgC (upN (clS f j) 0 (f 0)) := by exact cl_st cs0_
    refine runs_loop (fun (ri_ : Nat) (st_ : Go.Vm.S) => ∃ (L : Nat) (m0 : Nat) (b0 : Nat → Box), (st_ = ⟨mk [(2, .ref (n + 0) 0), (4, .ref (n + 1) 0), (5, .sc (.bool false))], m0, b0⟩) ∧ (ri_ = 1 + L) ∧ (n + 2 ≤ m0) ∧ (∀ k_, k_ < n → b0 k_ = bx k_) ∧ (b0 (n + 0) = .cells (pgC (upN (clS f j) 0 L))) ∧ (b0 (n + 1) = .cells (List.replicate 224 (.sc (.int .u8 0)))) ∧ (L ≤ f 0) ∧ (strN (clS f j) L = strN (clS f j) (f 0))) (1 + (f 0)) ⟨_, sle ?_ (Nat.le_refl _), (f 0), _, _, rfl, rfl, ?_⟩ ?_
    · (repeat' (first | exact trivial | refine ⟨⟨_, rfl, ?_⟩, ?_⟩ | fail)); all_goals (repeat' (first | exact VLe.refl _ | exact VLe.own_sl _ _ _ | exact VLe.fl_sl _ _ | exact VLe.nil_sl _ | exact VLe.nil_fl _ | exact VLes.refl _ | exact .nil | refine VLe.tup ?_ | refine VLe.agg ?_ | refine .cons ?_ ?_ | (rw [Int.natCast_add]; exact VLe.refl _) | exact vle_int (by omega) | exact vle_bool (by first | rfl | assumption | (simp_all; done) | fail) | (rw [← hs0_]; exact VLe.refl _) | (rw [hs0_]; exact VLe.refl _) | fail))
    · exact ⟨by omega, (fun k_ hk_ => by repeat (first | exact rfl | refine uN (by omega) ?_ | assumption | fail)), by first | ((repeat (first | exact uE | assumption | refine uN (by omega) ?_ | fail)); done) | exact tl_eq (by repeat (first | exact uE | assumption | refine uN (by omega) ?_ | fail)) (by first | rfl | (simp [bytesV, beB_len]; done) | (simp [bytesV, beB_len]; omega) | omega) | (rw [← hs0_]; (repeat (first | exact uE | assumption | refine uN (by omega) ?_ | fail)); done), by first | ((repeat (first | exact uE | assumption | refine uN (by omega) ?_ | fail)); done) | exact tl_eq (by repeat (first | exact uE | assumption | refine uN (by omega) ?_ | fail)) (by first | rfl | (simp [bytesV, beB_len]; done) | (simp [bytesV, beB_len]; omega) | omega) | (rw [← hs0_]; (repeat (first | exact uE | assumption | refine uN (by omega) ?_ | fail)); done), by omega, rfl⟩
    · rintro _ _ ⟨L, m0, b0, rfl, rfl, hm0, hf0, hB0_0, hB0_1, hF0_0, hF0_1⟩
      refine runs_know (fun hd0 => ?_)
      refine runs_bump 20 ?_
      simp only at hd0
      refine runs_seq ?_
      refine runs_seq ?_
      refine runs_region ?_
      refine' rl0 (gn rfl) rfl rfl (step_load_all rfl rfl F.agg27 ?hl) ⟨?hb, trivial⟩ ?_
      case hb => repeat (first | exact uE | refine uN (by omega) ?_ | assumption | exact hd _ (by omega) | exact hd0 _ (by omega) | fail)
      case hl => first | rfl | (simp; done) | (first | exact pgC_len _ | (simp; done) | (rw [pgC_len]; omega) | omega)
      refine rl0 (gn rfl) rfl rfl (step_callc rfl Try.func13 rfl rfl rfl (len_u (clS f j) L cs_.b (by omega)) (by repeat (first | exact .nil | refine .cons ?_ ?_ | exact VLe.refl _ | exact VLe.own_sl _ _ _ | exact VLe.fl_sl _ _ | exact VLe.nil_sl _ | exact vle_int (by omega)))) trivial ?_
      refine rl_gtr (gn rfl) rfl rfl rfl rfl rfl (fun h2 => ?_) (fun h2 => ?_)
      · skip
        refine runsL_nil ?_
        refine runs_cond true (ev_mk rfl) (fun _ => ?_) (fun h_ => nomatch h_)
        refine runs_skip ?_
        refine runs_block ?_
        refine runs_seq ?_
        refine runs_seq ?_
        refine runs_draw (by kernel_rfl) (by kernel_rfl) (by kernel_rfl) ?_
        refine' dl0 (gn rfl) rfl rfl (step_load_all rfl rfl F.agg27 ?hl) ⟨?hb, trivial⟩ ?_
        case hb => repeat (first | exact uE | refine uN (by omega) ?_ | assumption | exact hd _ (by omega) | exact hd0 _ (by omega) | fail)
        case hl => first | rfl | (simp; done) | (first | exact pgC_len _ | (simp; done) | (rw [pgC_len]; omega) | omega)
        refine' dl0 (gn rfl) rfl rfl (step_load_all rfl rfl F.agg27 ?hl) ⟨?hb, trivial⟩ ?_
        case hb => repeat (first | exact uE | refine uN (by omega) ?_ | assumption | exact hd _ (by omega) | exact hd0 _ (by omega) | fail)
        case hl => first | rfl | (simp; done) | (first | exact pgC_len _ | (simp; done) | (rw [pgC_len]; omega) | omega)
        refine dl0 (gn rfl) rfl rfl (step_callc rfl Try.func13 rfl rfl rfl (len_u (clS f j) L cs_.b (by omega)) (by repeat (first | exact .nil | refine .cons ?_ ?_ | exact VLe.refl _ | exact VLe.own_sl _ _ _ | exact VLe.fl_sl _ _ | exact VLe.nil_sl _ | exact vle_int (by omega)))) trivial ?_
        refine dl0 (gn rfl) rfl rfl (step_sub rfl (ev_mk rfl) (ev_mk rfl) (w64 (by omega))) trivial ?_
        refine dl0 (gn rfl) rfl rfl (step_callc rfl Try.func29 rfl rfl rfl (slot_u (clS f j) L (L - 1) cs_.b (by omega) (by omega)) (by repeat (first | exact .nil | refine .cons ?_ ?_ | exact VLe.refl _ | exact VLe.own_sl _ _ _ | exact VLe.fl_sl _ _ | exact VLe.nil_sl _ | exact vle_int (by omega)))) trivial ?_
        refine dl0 (gn rfl) rfl rfl (step_mv rfl rfl) trivial ?_
        refine dl0 (gn rfl) rfl rfl (step_extract rfl (ev_mk rfl) rfl) trivial ?_
        refine dl0 (gn rfl) rfl rfl (step_extract rfl (ev_mk rfl) rfl) trivial ?_
        refine dl0 (gn rfl) rfl rfl (step_as rfl rfl) trivial ?_
        refine dl0 (gn rfl) rfl rfl (step_as rfl rfl) trivial ?_
        refine dlnil ?_ ?_
        · repeat' (first | exact trivial | exact .inr (ap0 _ _ _ _) | exact .inr (ap2 _ _ _ _) | exact .inr (ap3 _ _ _ _) | exact .inr ⟨by first | (simp; done) | (simp; omega), by first | (simp; done) | (simp; omega)⟩ | exact .inl (by kernel_rfl) | refine ⟨?_, ?_⟩ | fail)
        refine runs_seq ?_
        refine runs_region ?_
        refine rl0 (gn rfl) rfl rfl (step_mv rfl rfl) trivial ?_
        refine rl_gtr (gn rfl) rfl rfl rfl rfl rfl (fun h3 => ?_) (fun h3 => ?_)
        · skip
          have hLe_ : L = strN (clS f j) (f 0) := by rw [← hF0_1]; obtain ⟨M, rfl⟩ : ∃ M, L = M + 1 := ⟨L - 1, by omega⟩; exact (if_pos (show 0 < sA (clS f j) M from by have q_ := h3; rw [show M + 1 - 1 = M by omega] at q_; omega)).symm
          refine runsL_nil ?_
          refine runs_cond true (ev_mk rfl) (fun _ => ?_) (fun h_ => nomatch h_)
          refine runs_exit ?_
          refine runs_seq ?_
          refine runs_region ?_
          refine' rl0 (gn rfl) rfl rfl (step_load_all rfl rfl F.agg27 ?hl) ⟨?hb, trivial⟩ ?_
          case hb => repeat (first | exact uE | refine uN (by omega) ?_ | assumption | exact hd _ (by omega) | exact hd0 _ (by omega) | fail)
          case hl => first | rfl | (simp; done) | (first | exact pgC_len _ | (simp; done) | (rw [pgC_len]; omega) | omega)
          refine' rls (gn rfl) rfl (step_storeA rfl rfl rfl rfl F.agg27 ?hm ?hl) ⟨?hb, trivial⟩ ?hk ?_
          case hb => repeat (first | exact uE | refine uN (by omega) ?_ | assumption | exact hd _ (by omega) | exact hd0 _ (by omega) | fail)
          case hm => first | rfl | (simp; done) | (first | exact pgC_len _ | (simp; done) | (rw [pgC_len]; omega) | omega)
          case hl => first | rfl | (simp; done) | (first | exact pgC_len _ | (simp; done) | (rw [pgC_len]; omega) | omega)
          case hk => omega
          refine rl0 (gn rfl) rfl rfl (step_as rfl rfl) trivial ?_
          refine runsL_nil ?_
          refine runs_ret ?_
          refine ⟨by first | exact .inr rfl | exact .inl rfl, fin_mkg (resc rfl (by repeat (first | exact uE | refine uN (by omega) ?_ | assumption | exact hd _ (by omega) | exact hd0 _ (by omega) | fail)) F.agg27 (by first | rfl | (simp; done) | (first | exact pgC_len _ | (simp; done) | (rw [pgC_len]; omega) | omega)) (rest rfl res0)) ?_ ?_ ?_ ?_ ?_⟩
          · (repeat' (first | exact VLe.refl _ | exact VLe.own_sl _ _ _ | exact VLe.fl_sl _ _ | exact VLe.nil_sl _ | exact VLe.nil_fl _ | exact VLes.refl _ | exact .nil | refine VLe.tup ?_ | refine VLe.agg ?_ | refine .cons ?_ ?_ | (rw [Int.natCast_add]; exact VLe.refl _) | exact vle_int (by omega) | exact vle_bool (by first | rfl | assumption | (simp_all; done) | fail) | ((rw [hdr_]; exact VLes.refl _)) | ((rw [hdr_]; unfold dropF; rw [← hLe_]; exact VLes.refl _)) | (exact vle_bool (by first | assumption | (symm; assumption))) | fail))
          · first | ((repeat (first | exact trivial | exact bd_pgA _ _ | exact bd_pg _ _ | assumption | omega | refine ⟨?_, ?_⟩ | fail)); done) | (repeat (first | exact trivial | assumption | omega | (refine bdR_map (fun _ => ?_)) | (refine bdL_map (fun _ => ?_)) | refine ⟨?_, ?_⟩ | fail))
          · intro k_ hk_; exact ble (by repeat (first | exact rfl | refine uN (by omega) ?_ | assumption | exact hf0 _ (by omega) | fail))
          · intro p hp; cases hp
          · first | ((repeat (first | exact trivial | exact bd_pgA _ _ | exact bd_pg _ _ | assumption | omega | refine ⟨?_, ?_⟩ | fail)); done) | (repeat (first | exact trivial | assumption | omega | (refine bdR_map (fun _ => ?_)) | (refine bdL_map (fun _ => ?_)) | refine ⟨?_, ?_⟩ | fail))
        · skip
          have hno_ : strN (clS f j) (L - 1) = strN (clS f j) (f 0) := by rw [← hF0_1]; obtain ⟨M, rfl⟩ : ∃ M, L = M + 1 := ⟨L - 1, by omega⟩; exact (if_neg (show ¬ 0 < sA (clS f j) M from by have q_ := h3; rw [show M + 1 - 1 = M by omega] at q_; omega)).symm
          refine runsL_nil ?_
          refine runs_cond false (ev_mk rfl) (fun h_ => nomatch h_) (fun _ => ?_)
          refine runs_skip ?_
          refine runs_region ?_
          refine rl0 (gn rfl) rfl rfl (step_fieldAddr (off := 0) rfl (ev_mk rfl) Try.underlying27 rfl F.sz25 rfl) trivial ?_
          refine rl0 (gn rfl) rfl rfl (step_index_arr rfl (ev_mk rfl) (ev_mk rfl) Try.underlying25 F.sz5 (by omega) (by omega)) trivial ?_
          refine' rl0 (gn rfl) rfl rfl (step_load_one (v := .sc (.int .u8 (L : Int))) rfl (ev_mk rfl) F.one5 ?hv) ⟨?hb, trivial⟩ ?_
          case hb => repeat (first | exact uE | refine uN (by omega) ?_ | assumption | exact hd _ (by omega) | exact hd0 _ (by omega) | fail)
          case hv => (rw [show (L : Int) = ((upN (clS f j) 0 L 0 : Nat) : Int) from rfl]; exact pg_q (by omega) (by omega))
          refine rl0 (gn rfl) rfl rfl (step_sub rfl (ev_mk rfl) (ev_mk rfl) (wu8 (by omega))) trivial ?_
          refine rl0 (gn rfl) rfl rfl (step_fieldAddr (off := 0) rfl (ev_mk rfl) Try.underlying27 rfl F.sz25 rfl) trivial ?_
          refine rl0 (gn rfl) rfl rfl (step_index_arr rfl (ev_mk rfl) (ev_mk rfl) Try.underlying25 F.sz5 (by omega) (by omega)) trivial ?_
          refine' rls (gn rfl) rfl (step_store1 (cs' := pgC (upN (clS f j) 0 (L - 1))) rfl rfl rfl rfl F.one5 rfl rfl ?hl ?hc) ⟨?hb, trivial⟩ ?hk ?_
          case hb => repeat (first | exact uE | refine uN (by omega) ?_ | assumption | exact hd _ (by omega) | exact hd0 _ (by omega) | fail)
          case hl => (rw [pgC_len]; omega)
          case hc => (rw [show (L : Int) - 1 = ((L - 1 : Nat) : Int) by omega, ← up_up (clS f j) L (L - 1)]; exact pg_set (by rfl))
          case hk => omega
          refine runsL_nil ?_
          refine ⟨_, _, ?_, sle ?_ (Nat.le_refl _), (L - 1), _, _, rfl, rfl, by omega, (fun k_ hk_ => by repeat (first | exact hf0 k_ hk_ | refine uN (by first | assumption | omega) ?_ | fail)), by first | ((repeat (first | exact uE | assumption | refine uN (by omega) ?_ | fail)); done) | exact tl_eq (by repeat (first | exact uE | assumption | refine uN (by omega) ?_ | fail)) (by first | rfl | (simp [bytesV, beB_len]; done) | (simp [bytesV, beB_len]; omega) | omega), by first | ((repeat (first | exact uE | assumption | refine uN (by omega) ?_ | fail)); done) | exact tl_eq (by repeat (first | exact uE | assumption | refine uN (by omega) ?_ | fail)) (by first | rfl | (simp [bytesV, beB_len]; done) | (simp [bytesV, beB_len]; omega) | omega), by omega, hno_⟩
          · omega
          · (repeat' (first | exact trivial | refine ⟨⟨_, rfl, ?_⟩, ?_⟩ | fail)); all_goals (repeat' (first | exact VLe.refl _ | exact VLe.own_sl _ _ _ | exact VLe.fl_sl _ _ | exact VLe.nil_sl _ | exact VLe.nil_fl _ | exact VLes.refl _ | exact .nil | refine VLe.tup ?_ | refine VLe.agg ?_ | refine .cons ?_ ?_ | (rw [Int.natCast_add]; exact VLe.refl _) | exact vle_int (by omega) | exact vle_bool (by first | rfl | assumption | (simp_all; done) | fail) | fail))
      · skip
        obtain rfl : L = 0 := by omega
        have hLe_ : 0 = strN (clS f j) (f 0) := hF0_1
        refine runsL_nil ?_
        refine runs_cond false (ev_mk rfl) (fun h_ => nomatch h_) (fun _ => ?_)
        refine runs_exit ?_
        refine runs_seq ?_
        refine runs_region ?_
        refine' rl0 (gn rfl) rfl rfl (step_load_all rfl rfl F.agg27 ?hl) ⟨?hb, trivial⟩ ?_
        case hb => repeat (first | exact uE | refine uN (by omega) ?_ | assumption | exact hd _ (by omega) | exact hd0 _ (by omega) | fail)
        case hl => first | rfl | (simp; done) | (first | exact pgC_len _ | (simp; done) | (rw [pgC_len]; omega) | omega)
        refine' rls (gn rfl) rfl (step_storeA rfl rfl rfl rfl F.agg27 ?hm ?hl) ⟨?hb, trivial⟩ ?hk ?_
        case hb => repeat (first | exact uE | refine uN (by omega) ?_ | assumption | exact hd _ (by omega) | exact hd0 _ (by omega) | fail)
        case hm => first | rfl | (simp; done) | (first | exact pgC_len _ | (simp; done) | (rw [pgC_len]; omega) | omega)
        case hl => first | rfl | (simp; done) | (first | exact pgC_len _ | (simp; done) | (rw [pgC_len]; omega) | omega)
        case hk => omega
        refine rl0 (gn rfl) rfl rfl (step_as rfl rfl) trivial ?_
        refine runsL_nil ?_
        refine runs_ret ?_
        refine ⟨by first | exact .inr rfl | exact .inl rfl, fin_mkg (resc rfl (by repeat (first | exact uE | refine uN (by omega) ?_ | assumption | exact hd _ (by omega) | exact hd0 _ (by omega) | fail)) F.agg27 (by first | rfl | (simp; done) | (first | exact pgC_len _ | (simp; done) | (rw [pgC_len]; omega) | omega)) (rest rfl res0)) ?_ ?_ ?_ ?_ ?_⟩
        · (repeat' (first | exact VLe.refl _ | exact VLe.own_sl _ _ _ | exact VLe.fl_sl _ _ | exact VLe.nil_sl _ | exact VLe.nil_fl _ | exact VLes.refl _ | exact .nil | refine VLe.tup ?_ | refine VLe.agg ?_ | refine .cons ?_ ?_ | (rw [Int.natCast_add]; exact VLe.refl _) | exact vle_int (by omega) | exact vle_bool (by first | rfl | assumption | (simp_all; done) | fail) | ((rw [hdr_]; exact VLes.refl _)) | ((rw [hdr_]; unfold dropF; rw [← hLe_]; exact VLes.refl _)) | (exact vle_bool (by first | assumption | (symm; assumption))) | fail))
        · first | ((repeat (first | exact trivial | exact bd_pgA _ _ | exact bd_pg _ _ | assumption | omega | refine ⟨?_, ?_⟩ | fail)); done) | (repeat (first | exact trivial | assumption | omega | (refine bdR_map (fun _ => ?_)) | (refine bdL_map (fun _ => ?_)) | refine ⟨?_, ?_⟩ | fail))
        · intro k_ hk_; exact ble (by repeat (first | exact rfl | refine uN (by omega) ?_ | assumption | exact hf0 _ (by omega) | fail))
        · intro p hp; cases hp
        · first | ((repeat (first | exact trivial | exact bd_pgA _ _ | exact bd_pg _ _ | assumption | omega | refine ⟨?_, ?_⟩ | fail)); done) | (repeat (first | exact trivial | assumption | omega | (refine bdR_map (fun _ => ?_)) | (refine bdL_map (fun _ => ?_)) | refine ⟨?_, ?_⟩ | fail))
end Go.Proofs.Ytjmfdddeoadpaaa
