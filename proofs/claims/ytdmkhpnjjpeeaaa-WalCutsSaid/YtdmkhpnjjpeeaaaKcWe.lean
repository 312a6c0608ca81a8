import Derived.Test.YtdmkhpnjjpeeaaaKcQq
import Derived.Test.YtdmkhpnjjpeeaaaKcVmT
import Derived.Test.YtdmkhpnjjpeeaaaKcWa
namespace Go.Proofs.Ytdmkhpnjjpeeaaa
open Go.Vm
set_option linter.unusedVariables false
set_option linter.unusedSimpArgs false
open Crc
def tabC (j : Nat) : List V := (List.range 16).map fun i => .sc (.int .u32 (if i < j then nB (it 4 (BitVec.ofNat 32 i)) else 0))
theorem tabC_len (j : Nat) : (tabC j).length = 16 := by simp [tabC]
theorem tabC_set (j : Nat) (h : j < 16) : (tabC j).set j (.sc (.int .u32 (nB (it 4 (BitVec.ofNat 32 j))))) = tabC (j + 1) := by
  apply List.ext_getElem?
  intro i
  simp only [tabC, List.getElem?_set, List.length_map, List.length_range, List.getElem?_map]
  by_cases hi : i < 16
  · rw [List.getElem?_range hi]
    by_cases e : j = i
    · subst e; simp [h]
    · have h1 : (i < j + 1) = (i < j) := by simp; omega
      simp [e, h1]
  · simp [show (List.range 16)[i]? = none by simp; omega]; omega
theorem tabC_at (c : BitVec 32) : (tabC 16)[0 + (nB (c &&& 15#32)).toNat * 1]? = some (.sc (.int .u32 (nB (it 4 (c &&& 15#32))))) := by
  have h : (c &&& 15#32).toNat < 16 := by
    rw [BitVec.toNat_and]; exact Nat.lt_of_le_of_lt Nat.and_le_right (by decide)
  have e : (nB (c &&& 15#32)).toNat = (c &&& 15#32).toNat := by simp [nB]
  rw [e, Nat.zero_add, Nat.mul_one]
  simp only [tabC, List.getElem?_map, List.getElem?_range h, Option.map_some, h, if_true]
  simp
theorem and15_lt (c : BitVec 32) : 0 ≤ nB (c &&& 15#32) ∧ nB (c &&& 15#32) < 16 := by
  have h : (c &&& 15#32).toNat < 16 := by
    rw [BitVec.toNat_and]; exact Nat.lt_of_le_of_lt Nat.and_le_right (by decide)
  unfold nB; omega
theorem c_of {b : List Int} (hb : Byts b) (i : Int) : (at' b i : Int) = nB (BitVec.ofNat 32 (at' b i).toNat) := by
  have := at_any hb i
  rw [n_ofNat _ (by omega)]; omega
theorem c_hi {b : List Int} (hb : Byts b) (i : Int) : (at' b i).fdiv (2 ^ (min (4 : Int).toNat IntKind.u8.bits)) = nB (BitVec.ofNat 32 ((at' b i).toNat / 16)) := by
  have := at_any hb i
  rw [show min (4 : Int).toNat IntKind.u8.bits = 4 from rfl, Int.fdiv_eq_ediv_of_nonneg _ (by decide), n_ofNat _ (by omega)]
  show at' b i / 16 = _
  omega
theorem shr4 (v : BitVec 32) : (nB v).fdiv (2 ^ (min (4 : Int).toNat IntKind.u32.bits)) = nB (v >>> 4) := by
  rw [show min (4 : Int).toNat IntKind.u32.bits = 4 from rfl, Int.fdiv_eq_ediv_of_nonneg _ (by decide)]
  exact n_shr v 4
theorem shr1 (v : BitVec 32) : (nB v).fdiv (2 ^ (min (1 : Int).toNat IntKind.u32.bits)) = nB (v >>> 1) := by
  rw [show min (1 : Int).toNat IntKind.u32.bits = 1 from rfl, Int.fdiv_eq_ediv_of_nonneg _ (by decide)]
  exact n_shr v 1
theorem shr8 (v : BitVec 32) : (nB v).fdiv (2 ^ (min (8 : Int).toNat IntKind.u32.bits)) = nB v / 256 := by
  rw [show min (8 : Int).toNat IntKind.u32.bits = 8 from rfl, Int.fdiv_eq_ediv_of_nonneg _ (by decide)]; rfl
theorem shr16 (v : BitVec 32) : (nB v).fdiv (2 ^ (min (16 : Int).toNat IntKind.u32.bits)) = nB v / 65536 := by
  rw [show min (16 : Int).toNat IntKind.u32.bits = 16 from rfl, Int.fdiv_eq_ediv_of_nonneg _ (by decide)]; rfl
theorem shr24 (v : BitVec 32) : (nB v).fdiv (2 ^ (min (24 : Int).toNat IntKind.u32.bits)) = nB v / 16777216 := by
  rw [show min (24 : Int).toNat IntKind.u32.bits = 24 from rfl, Int.fdiv_eq_ediv_of_nonneg _ (by decide)]; rfl
theorem low_half (v : BitVec 32) (c : Nat) (hc : c < 256) : (it 4 ((v ^^^ BitVec.ofNat 32 c) &&& 15#32)) ^^^ (v >>> 4) = it 4 (v ^^^ BitVec.ofNat 32 (c % 16)) := half_n v c hc
theorem high_half (v : BitVec 32) (c : Nat) (hc : c < 256) : (it 4 ((it 4 (v ^^^ BitVec.ofNat 32 (c % 16)) ^^^ BitVec.ofNat 32 (c / 16)) &&& 15#32)) ^^^ (it 4 (v ^^^ BitVec.ofNat 32 (c % 16)) >>> 4) = G v c 8 := by
  rw [half_n _ (c / 16) (by omega), byte_n v c hc]
theorem M_eq (v : BitVec 32) (h : nB (v &&& 1#32) = 1) : (v >>> 1) ^^^ 0x82f63b78#32 = M v := by rw [M, if_pos ((n_bit v).1 h)]
theorem M_ne (v : BitVec 32) (h : ¬ nB (v &&& 1#32) = 1) : v >>> 1 = M v := by rw [M, if_neg (fun e => h ((n_bit v).2 e))]; simp
set_option maxRecDepth 100000 in
set_option maxHeartbeats 4000000 in
theorem step_c (v : BitVec 32) : Does Try.prog 72 [.sc (.int .u32 (nB v))] [] [] (.sc (.int .u32 (nB (it 4 v)))) := by
  refine does_mkg 40 Try.func72 rfl rfl rfl (fun n B bx hd hpre hup hvs hbx hgx => ?_);refine runs_seq ?_;refine runs_region ?_;refine rl0 (gn rfl) rfl rfl (step_as rfl rfl) trivial ?_;refine runsL_nil ?_;refine runs_seq ?_;refine runs_seq ?_;refine runs_region ?_;refine rl0 (gn rfl) rfl rfl (step_mv rfl rfl) trivial ?_;refine runsL_nil ?_;refine runs_block ?_;refine runs_loop (fun (ri_ : Nat) (st_ : Go.Vm.S) => ∃ (j : Nat) (m0 : Nat) (b0 : Nat → Box), (st_ = ⟨mk [(0, .sc (.int .u32 (nB (it j v)))), (2, .sc (.int .u32 0)), (3, .sc (.int .i64 j))], m0, b0⟩) ∧ (ri_ = 4 - j) ∧ (n + 0 ≤ m0) ∧ (∀ k_, k_ < n → b0 k_ = bx k_) ∧ (j ≤ 4)) (4 - 0) ⟨_, sle ?_ (Nat.le_refl _), 0, _, _, rfl, rfl, ?_⟩ ?_
  · exact t_129
  · exact t_156
  · rintro _ _ ⟨j, m0, b0, rfl, rfl, hm0, hf0, hF0_0⟩
    refine runs_know (fun hd0 => ?_);refine runs_bump 20 ?_;simp only at hd0;refine runs_seq ?_;refine runs_region ?_;refine rl_lss (gn rfl) rfl rfl rfl rfl rfl (fun h1 => ?_) (fun h1 => ?_)
    · skip
      refine runsL_nil ?_;refine runs_seq ?_;refine runs_cond true (ev_mk rfl) (fun _ => ?_) (fun h_ => nomatch h_);refine runs_skip ?_;refine runs_seq ?_;refine runs_block ?_;refine runs_seq ?_;refine runs_region ?_;refine rl0 (gn rfl) rfl rfl (step_mv rfl rfl) trivial ?_;refine rl0 (gn rfl) rfl rfl (step_bits (r := nB (it j v &&& 1#32)) rfl (ev_mk rfl) (ev_mk rfl) (.inl rfl) (n_and1 _)) trivial ?_;refine rl_eql (gn rfl) rfl rfl rfl rfl rfl (fun h2 => ?_) (fun h2 => ?_)
      · skip
        refine runsL_nil ?_;refine runs_cond true (ev_mk rfl) (fun _ => ?_) (fun h_ => nomatch h_);refine runs_region ?_;refine rl0 (gn rfl) rfl rfl (step_mv rfl rfl) trivial ?_;refine rl0 (gn rfl) rfl rfl (step_shr (r := nB (it j v >>> 1)) rfl (ev_mk rfl) (ev_mk rfl) (by omega) (shr1 _)) trivial ?_;refine rl0 (gn rfl) rfl rfl (step_bits (r := nB ((it j v >>> 1) ^^^ 0x82f63b78#32)) rfl (ev_mk rfl) (ev_mk rfl) (.inr (.inr (.inl rfl))) (n_poly _)) trivial ?_;refine rl0 (gn rfl) rfl rfl (step_as rfl rfl) trivial ?_;refine runsL_nil ?_;refine runs_region ?_;refine rl0 (gn rfl) rfl rfl (step_add rfl (ev_mk rfl) (ev_mk rfl) (w64 (by omega))) trivial ?_;refine rl0 (gn rfl) rfl rfl (step_mv rfl rfl) trivial ?_;refine runsL_nil ?_;have hq0_ : nB ((it j v >>> 1) ^^^ 0x82f63b78#32) = nB (it (j + 1) v) := by (first | rw [M_eq _ (by assumption)] | rw [M_ne _ (by assumption)]); rw [it_add j 1]; rfl
        refine ⟨_, _, ?_, sle ?_ (Nat.le_refl _), (j + 1), _, _, rfl, rfl, by omega, (fun k_ hk_ => t_24), by omega⟩
        · omega
        · exact t_3
      · skip
        refine runsL_nil ?_;refine runs_cond false (ev_mk rfl) (fun h_ => nomatch h_) (fun _ => ?_);refine runs_region ?_;refine rl0 (gn rfl) rfl rfl (step_mv rfl rfl) trivial ?_;refine rl0 (gn rfl) rfl rfl (step_shr (r := nB (it j v >>> 1)) rfl (ev_mk rfl) (ev_mk rfl) (by omega) (shr1 _)) trivial ?_;refine rl0 (gn rfl) rfl rfl (step_as rfl rfl) trivial ?_;refine runsL_nil ?_;refine runs_region ?_;refine rl0 (gn rfl) rfl rfl (step_add rfl (ev_mk rfl) (ev_mk rfl) (w64 (by omega))) trivial ?_;refine rl0 (gn rfl) rfl rfl (step_mv rfl rfl) trivial ?_;refine runsL_nil ?_;have hq0_ : nB (it j v >>> 1) = nB (it (j + 1) v) := by (first | rw [M_eq _ (by assumption)] | rw [M_ne _ (by assumption)]); rw [it_add j 1]; rfl
        refine ⟨_, _, ?_, sle ?_ (Nat.le_refl _), (j + 1), _, _, rfl, rfl, by omega, (fun k_ hk_ => t_24), by omega⟩
        · omega
        · exact t_3
    · skip
      refine runsL_nil ?_;refine runs_seq ?_;refine runs_cond false (ev_mk rfl) (fun h_ => nomatch h_) (fun _ => ?_);refine runs_exit ?_;refine runs_seq ?_;refine runs_region ?_;refine rl0 (gn rfl) rfl rfl (step_mv rfl rfl) trivial ?_;refine rl0 (gn rfl) rfl rfl (step_as rfl rfl) trivial ?_;refine runsL_nil ?_;refine runs_ret ?_;obtain rfl : j = 4 := by omega
      refine ⟨t_17, fin_mkg (rest rfl res0) ?_ ?_ ?_ ?_ ?_⟩
      · exact t_2
      · exact t_1
      · exact t_147
      · exact t_45
      · exact t_1
set_option maxRecDepth 100000 in
set_option maxHeartbeats 4000000 in
theorem table_c  : Does Try.prog 71 [] [] [] (.agg (tabC 16)) := by
  refine does_mkg 40 Try.func71 rfl rfl rfl (fun n B bx hd hpre hup hvs hbx hgx => ?_);refine runs_seq ?_;refine runs_region ?_;refine rl1 (gn rfl) rfl rfl (step_allocc (k := n + 0) (zs := [.int .u32 0, .int .u32 0, .int .u32 0, .int .u32 0, .int .u32 0, .int .u32 0, .int .u32 0, .int .u32 0, .int .u32 0, .int .u32 0, .int .u32 0, .int .u32 0, .int .u32 0, .int .u32 0, .int .u32 0, .int .u32 0]) (cs := [.sc (.int .u32 0), .sc (.int .u32 0), .sc (.int .u32 0), .sc (.int .u32 0), .sc (.int .u32 0), .sc (.int .u32 0), .sc (.int .u32 0), .sc (.int .u32 0), .sc (.int .u32 0), .sc (.int .u32 0), .sc (.int .u32 0), .sc (.int .u32 0), .sc (.int .u32 0), .sc (.int .u32 0), .sc (.int .u32 0), .sc (.int .u32 0)]) rfl F.zero125 t_33 t_55 t_33) ⟨t_0, trivial⟩ (by omega) ?_;refine runsL_nil ?_;refine runs_seq ?_;refine runs_region ?_;refine rl1 (gn rfl) rfl rfl (step_allocc (k := n + 1) (zs := [.int .u32 0, .int .u32 0, .int .u32 0, .int .u32 0, .int .u32 0, .int .u32 0, .int .u32 0, .int .u32 0, .int .u32 0, .int .u32 0, .int .u32 0, .int .u32 0, .int .u32 0, .int .u32 0, .int .u32 0, .int .u32 0]) (cs := [.sc (.int .u32 0), .sc (.int .u32 0), .sc (.int .u32 0), .sc (.int .u32 0), .sc (.int .u32 0), .sc (.int .u32 0), .sc (.int .u32 0), .sc (.int .u32 0), .sc (.int .u32 0), .sc (.int .u32 0), .sc (.int .u32 0), .sc (.int .u32 0), .sc (.int .u32 0), .sc (.int .u32 0), .sc (.int .u32 0), .sc (.int .u32 0)]) rfl F.zero125 t_33 t_55 t_33) ⟨t_0, trivial⟩ (by omega) ?_;refine runsL_nil ?_;refine runs_seq ?_;refine runs_seq ?_;refine runs_region ?_;refine rl0 (gn rfl) rfl rfl (step_mv rfl rfl) trivial ?_;refine runsL_nil ?_;refine runs_block ?_;refine runs_loop (fun (ri_ : Nat) (st_ : Go.Vm.S) => ∃ (j : Nat) (m0 : Nat) (b0 : Nat → Box), (st_ = ⟨mk [(0, .ref (n + 0) 0), (1, .ref (n + 1) 0), (3, .sc (.int .i64 j))], m0, b0⟩) ∧ (ri_ = 16 - j) ∧ (n + 2 ≤ m0) ∧ (∀ k_, k_ < n → b0 k_ = bx k_) ∧ (b0 (n + 0) = .cells [.sc (.int .u32 0), .sc (.int .u32 0), .sc (.int .u32 0), .sc (.int .u32 0), .sc (.int .u32 0), .sc (.int .u32 0), .sc (.int .u32 0), .sc (.int .u32 0), .sc (.int .u32 0), .sc (.int .u32 0), .sc (.int .u32 0), .sc (.int .u32 0), .sc (.int .u32 0), .sc (.int .u32 0), .sc (.int .u32 0), .sc (.int .u32 0)]) ∧ (b0 (n + 1) = .cells (tabC j)) ∧ (j ≤ 16)) (16 - 0) ⟨_, sle ?_ (Nat.le_refl _), 0, _, _, rfl, rfl, ?_⟩ ?_
  · exact t_129
  · exact t_150
  · rintro _ _ ⟨j, m0, b0, rfl, rfl, hm0, hf0, hB0_0, hB0_1, hF0_0⟩
    refine runs_know (fun hd0 => ?_);refine runs_bump 20 ?_;simp only at hd0;refine runs_seq ?_;refine runs_region ?_;refine rl_lss (gn rfl) rfl rfl rfl rfl rfl (fun h1 => ?_) (fun h1 => ?_)
    · skip
      refine runsL_nil ?_;refine runs_seq ?_;refine runs_cond true (ev_mk rfl) (fun _ => ?_) (fun h_ => nomatch h_);refine runs_skip ?_;refine runs_seq ?_;refine runs_block ?_;refine runs_seq ?_;refine runs_region ?_;refine rl0 (gn rfl) rfl rfl (step_mv rfl rfl) trivial ?_;refine rl0 (gn rfl) rfl rfl (step_as rfl rfl) trivial ?_;refine runsL_nil ?_;refine runs_region ?_;refine rl0 (gn rfl) rfl rfl (step_mv rfl rfl) trivial ?_;refine rl0 (gn rfl) rfl rfl (step_mv rfl rfl) trivial ?_;refine rl0 (gn rfl) rfl rfl (step_convw (r := nB (BitVec.ofNat 32 j)) rfl rfl Try.underlying3 Try.underlying34 (by rw [n_ofNat _ (by omega)]; exact wu32 (by omega))) trivial ?_;refine rl0 (gn rfl) rfl rfl (step_callc rfl Try.func72 rfl rfl rfl (step_c (BitVec.ofNat 32 j)) t_10) trivial ?_;refine rl0 (gn rfl) rfl rfl (step_index_arr rfl (ev_mk rfl) (ev_mk rfl) Try.underlying125 F.sz34 (by omega) (by omega)) trivial ?_;refine' rls (gn rfl) rfl (step_store1 (cs' := (tabC (j + 1))) rfl rfl rfl rfl F.one34 rfl rfl ?hl ?hc) ⟨?hb, trivial⟩ ?hk ?_
      case hb => exact t_4
      case hl => rw [tabC_len]; omega
      case hc => rw [show 0 + (j : Int).toNat * 1 = j by omega]; exact tabC_set j (by omega)
      case hk => omega
      refine runsL_nil ?_;refine runs_region ?_;refine rl0 (gn rfl) rfl rfl (step_add rfl (ev_mk rfl) (ev_mk rfl) (w64 (by omega))) trivial ?_;refine rl0 (gn rfl) rfl rfl (step_mv rfl rfl) trivial ?_;refine runsL_nil ?_;refine ⟨_, _, ?_, sle ?_ (Nat.le_refl _), (j + 1), _, _, rfl, rfl, by omega, (fun k_ hk_ => t_24), t_158, t_158, by omega⟩
      · omega
      · exact t_129
    · skip
      refine runsL_nil ?_;refine runs_seq ?_;refine runs_cond false (ev_mk rfl) (fun h_ => nomatch h_) (fun _ => ?_);refine runs_exit ?_;refine runs_seq ?_;refine runs_region ?_;refine' rl0 (gn rfl) rfl rfl (step_load_all rfl rfl F.agg125 ?hl) ⟨?hb, trivial⟩ ?_
      case hb => exact t_4
      case hl => exact t_79
      refine' rls (gn rfl) rfl (step_storeA rfl rfl rfl rfl F.agg125 ?hm ?hl) ⟨?hb, trivial⟩ ?hk ?_
      case hb => exact t_4
      case hm => exact t_79
      case hl => exact t_79
      case hk => omega
      refine runsL_nil ?_;refine runs_ret ?_;obtain rfl : j = 16 := by omega
      refine ⟨t_17, fin_mkg (resc rfl t_4 F.agg125 t_79 res0) ?_ ?_ ?_ ?_ ?_⟩
      · exact t_2
      · exact t_1
      · exact t_147
      · exact t_45
      · exact t_1
set_option maxRecDepth 100000 in
set_option maxHeartbeats 4000000 in
theorem go_c (v : BitVec 32) (b : List Int) (hb : Byts b) (hl : b.length ≤ 1000000000) : Does Try.prog 70 [.sc (.int .u32 (nB v)), .sl 1 (bytesV b)] [] [] (.sc (.int .u32 (nB (~~~ (crcF (~~~ v) b))))) := by
  refine does_mkg 40 Try.func70 rfl rfl rfl (fun n B bx hd hpre hup hvs hbx hgx => ?_);refine runs_seq ?_;refine runs_region ?_;refine rl0 (gn rfl) rfl rfl (step_as rfl rfl) trivial ?_;refine runsL_nil ?_;refine runs_seq ?_;refine runs_region ?_;refine rl0 (gn rfl) rfl rfl (step_callc rfl Try.func71 rfl rfl rfl (table_c) t_10) trivial ?_;refine rl1 (gn rfl) rfl rfl (step_allocc (k := n + 0) (zs := [.int .u32 0, .int .u32 0, .int .u32 0, .int .u32 0, .int .u32 0, .int .u32 0, .int .u32 0, .int .u32 0, .int .u32 0, .int .u32 0, .int .u32 0, .int .u32 0, .int .u32 0, .int .u32 0, .int .u32 0, .int .u32 0]) (cs := [.sc (.int .u32 0), .sc (.int .u32 0), .sc (.int .u32 0), .sc (.int .u32 0), .sc (.int .u32 0), .sc (.int .u32 0), .sc (.int .u32 0), .sc (.int .u32 0), .sc (.int .u32 0), .sc (.int .u32 0), .sc (.int .u32 0), .sc (.int .u32 0), .sc (.int .u32 0), .sc (.int .u32 0), .sc (.int .u32 0), .sc (.int .u32 0)]) rfl F.zero125 t_33 t_55 t_33) ⟨t_0, trivial⟩ (by omega) ?_;refine' rls (gn rfl) rfl (step_storeA rfl rfl rfl rfl F.agg125 ?hm ?hl) ⟨?hb, trivial⟩ ?hk ?_
  case hb => exact t_0
  case hm => exact t_79
  case hl => exact t_79
  case hk => omega
  refine runsL_nil ?_;refine runs_seq ?_;refine runs_region ?_;refine rl0 (gn rfl) rfl rfl (step_mv rfl rfl) trivial ?_;refine rl0 (gn rfl) rfl rfl (step_com (r := nB (~~~ v)) rfl (ev_mk rfl) (n_not v)) trivial ?_;refine rl0 (gn rfl) rfl rfl (step_as rfl rfl) trivial ?_;refine runsL_nil ?_;refine runs_seq ?_;refine runs_seq ?_;refine runs_region ?_;refine rl0 (gn rfl) rfl rfl (step_mv rfl rfl) trivial ?_;refine rl0 (gn rfl) rfl rfl (step_len (m := b.length) rfl rfl (ev_mk rfl) (.inl ⟨⟨_, Try.underlying22⟩, .inl ⟨_, _, .inl rfl, List.length_map _⟩⟩)) trivial ?_;refine rl0 (gn rfl) rfl rfl (step_mv rfl rfl) trivial ?_;refine runsL_nil ?_;refine runs_block ?_;have hs0_ : nB (~~~ v) = nB (crcF (~~~ v) (b.take 0)) := by rfl
  refine runs_loop (fun (ri_ : Nat) (st_ : Go.Vm.S) => ∃ (j : Nat) (m0 : Nat) (b0 : Nat → Box), (st_ = ⟨mk [(4, .sc (.int .u32 0)), (5, .ref (n + 0) 0), (6, .sc (.int .u32 (nB (crcF (~~~ v) (b.take j))))), (12, .sl 1 (bytesV b)), (13, .sc (.int .i64 b.length)), (14, .sc (.int .i64 j))], m0, b0⟩) ∧ (ri_ = b.length - j) ∧ (n + 1 ≤ m0) ∧ (∀ k_, k_ < n → b0 k_ = bx k_) ∧ (b0 (n + 0) = .cells (tabC 16)) ∧ (j ≤ b.length)) (b.length - 0) ⟨_, sle ?_ (Nat.le_refl _), 0, _, _, rfl, rfl, ?_⟩ ?_
  · exact t_11
  · exact t_164
  · rintro _ _ ⟨j, m0, b0, rfl, rfl, hm0, hf0, hB0_0, hF0_0⟩
    refine runs_know (fun hd0 => ?_);refine runs_bump 20 ?_;simp only at hd0;refine runs_seq ?_;refine runs_region ?_;refine rl_lss (gn rfl) rfl rfl rfl rfl rfl (fun h1 => ?_) (fun h1 => ?_)
    · skip
      have hc9 : (at' b (j : Int)).toNat < 256 := by have h_ := at_any hb (j : Int); omega
      have hl1 := and15_lt (crcF (~~~ v) (b.take j) ^^^ BitVec.ofNat 32 (at' b (j : Int)).toNat)
      have hl2 := and15_lt ((it 4 (crcF (~~~ v) (b.take j) ^^^ BitVec.ofNat 32 ((at' b (j : Int)).toNat % 16))) ^^^ BitVec.ofNat 32 ((at' b (j : Int)).toNat / 16))
      refine runsL_nil ?_;refine runs_seq ?_;refine runs_cond true (ev_mk rfl) (fun _ => ?_) (fun h_ => nomatch h_);refine runs_skip ?_;refine runs_seq ?_;refine runs_block ?_;refine runs_seq ?_;refine runs_region ?_;refine' rl0 (gn rfl) rfl rfl (step_index rfl (ev_mk rfl) (.inl rfl) (ev_mk rfl) Try.underlying22 F.sz5 (by omega) ?hr) trivial ?_
      case hr => exact t_31
      refine rl0 (gn rfl) rfl rfl (step_load_ro rfl (ev_mk rfl) F.one5 rfl) trivial ?_;refine rl0 (gn rfl) rfl rfl (step_as rfl rfl) trivial ?_;refine runsL_nil ?_;refine runs_seq ?_;refine runs_region ?_;refine rl0 (gn rfl) rfl rfl (step_mv rfl rfl) trivial ?_;refine rl0 (gn rfl) rfl rfl (step_mv rfl rfl) trivial ?_;refine rl0 (gn rfl) rfl rfl (step_convw (r := nB (BitVec.ofNat 32 (at' b (j : Int)).toNat)) rfl rfl Try.underlying5 Try.underlying34 (by rw [← c_of hb]; exact wu32 (by have h_ := at_any hb (j : Int); omega))) trivial ?_;refine rl0 (gn rfl) rfl rfl (step_bits (r := nB (crcF (~~~ v) (b.take j) ^^^ BitVec.ofNat 32 (at' b (j : Int)).toNat)) rfl (ev_mk rfl) (ev_mk rfl) (.inr (.inr (.inl rfl))) (n_xor _ _)) trivial ?_;refine rl0 (gn rfl) rfl rfl (step_bits (r := nB ((crcF (~~~ v) (b.take j) ^^^ BitVec.ofNat 32 (at' b (j : Int)).toNat) &&& 15#32)) rfl (ev_mk rfl) (ev_mk rfl) (.inl rfl) (n_and15 _)) trivial ?_;refine rl0 (gn rfl) rfl rfl (step_index_arr rfl (ev_mk rfl) (ev_mk rfl) Try.underlying125 F.sz34 (by omega) (by omega)) trivial ?_;refine' rl0 (gn rfl) rfl rfl (step_load_one (v := .sc (.int .u32 (nB (it 4 ((crcF (~~~ v) (b.take j) ^^^ BitVec.ofNat 32 (at' b (j : Int)).toNat) &&& 15#32))))) rfl (ev_mk rfl) F.one34 ?hv) ⟨?hb, trivial⟩ ?_
      case hb => exact t_4
      case hv => exact tabC_at _
      refine rl0 (gn rfl) rfl rfl (step_mv rfl rfl) trivial ?_;refine rl0 (gn rfl) rfl rfl (step_shr (r := nB (crcF (~~~ v) (b.take j) >>> 4)) rfl (ev_mk rfl) (ev_mk rfl) (by omega) (shr4 _)) trivial ?_;refine rl0 (gn rfl) rfl rfl (step_bits (r := nB (it 4 (crcF (~~~ v) (b.take j) ^^^ BitVec.ofNat 32 ((at' b (j : Int)).toNat % 16)))) rfl (ev_mk rfl) (ev_mk rfl) (.inr (.inr (.inl rfl))) (by rw [n_xor, low_half _ _ hc9])) trivial ?_;refine rl0 (gn rfl) rfl rfl (step_as rfl rfl) trivial ?_;refine runsL_nil ?_;refine runs_region ?_;refine rl0 (gn rfl) rfl rfl (step_mv rfl rfl) trivial ?_;refine rl0 (gn rfl) rfl rfl (step_mv rfl rfl) trivial ?_;refine rl0 (gn rfl) rfl rfl (step_shr (r := nB (BitVec.ofNat 32 ((at' b (j : Int)).toNat / 16))) rfl (ev_mk rfl) (ev_mk rfl) (by omega) (c_hi hb _)) trivial ?_;refine rl0 (gn rfl) rfl rfl (step_convw (r := nB (BitVec.ofNat 32 ((at' b (j : Int)).toNat / 16))) rfl rfl Try.underlying5 Try.underlying34 (by rw [n_ofNat _ (by omega)]; exact wu32 (by omega))) trivial ?_;refine rl0 (gn rfl) rfl rfl (step_bits (r := nB ((it 4 (crcF (~~~ v) (b.take j) ^^^ BitVec.ofNat 32 ((at' b (j : Int)).toNat % 16))) ^^^ BitVec.ofNat 32 ((at' b (j : Int)).toNat / 16))) rfl (ev_mk rfl) (ev_mk rfl) (.inr (.inr (.inl rfl))) (n_xor _ _)) trivial ?_;refine rl0 (gn rfl) rfl rfl (step_bits (r := nB (((it 4 (crcF (~~~ v) (b.take j) ^^^ BitVec.ofNat 32 ((at' b (j : Int)).toNat % 16))) ^^^ BitVec.ofNat 32 ((at' b (j : Int)).toNat / 16)) &&& 15#32)) rfl (ev_mk rfl) (ev_mk rfl) (.inl rfl) (n_and15 _)) trivial ?_;refine rl0 (gn rfl) rfl rfl (step_index_arr rfl (ev_mk rfl) (ev_mk rfl) Try.underlying125 F.sz34 (by omega) (by omega)) trivial ?_;refine' rl0 (gn rfl) rfl rfl (step_load_one (v := .sc (.int .u32 (nB (it 4 (((it 4 (crcF (~~~ v) (b.take j) ^^^ BitVec.ofNat 32 ((at' b (j : Int)).toNat % 16))) ^^^ BitVec.ofNat 32 ((at' b (j : Int)).toNat / 16)) &&& 15#32))))) rfl (ev_mk rfl) F.one34 ?hv) ⟨?hb, trivial⟩ ?_
      case hb => exact t_4
      case hv => exact tabC_at _
      refine rl0 (gn rfl) rfl rfl (step_mv rfl rfl) trivial ?_;refine rl0 (gn rfl) rfl rfl (step_shr (r := nB ((it 4 (crcF (~~~ v) (b.take j) ^^^ BitVec.ofNat 32 ((at' b (j : Int)).toNat % 16))) >>> 4)) rfl (ev_mk rfl) (ev_mk rfl) (by omega) (shr4 _)) trivial ?_;refine rl0 (gn rfl) rfl rfl (step_bits (r := nB (G (crcF (~~~ v) (b.take j)) (at' b (j : Int)).toNat 8)) rfl (ev_mk rfl) (ev_mk rfl) (.inr (.inr (.inl rfl))) (by rw [n_xor, high_half _ _ hc9])) trivial ?_;refine rl0 (gn rfl) rfl rfl (step_as rfl rfl) trivial ?_;refine runsL_nil ?_;refine runs_region ?_;refine rl0 (gn rfl) rfl rfl (step_add rfl (ev_mk rfl) (ev_mk rfl) (w64 (by omega))) trivial ?_;refine rl0 (gn rfl) rfl rfl (step_mv rfl rfl) trivial ?_;refine runsL_nil ?_;have hq0_ : (nB (G (crcF (~~~ v) (b.take j)) (at' b (j : Int)).toNat 8)) = nB (crcF (~~~ v) (b.take (j + 1))) := by rw [crcF_take (by omega)]
      refine ⟨_, _, ?_, sle ?_ (Nat.le_refl _), (j + 1), _, _, rfl, rfl, by omega, (fun k_ hk_ => t_24), t_130, by omega⟩
      · omega
      · exact t_3
    · skip
      refine runsL_nil ?_;refine runs_seq ?_;refine runs_cond false (ev_mk rfl) (fun h_ => nomatch h_) (fun _ => ?_);refine runs_exit ?_;refine runs_seq ?_;refine runs_region ?_;refine rl0 (gn rfl) rfl rfl (step_mv rfl rfl) trivial ?_;refine rl0 (gn rfl) rfl rfl (step_com (r := nB (~~~ (crcF (~~~ v) (b.take j)))) rfl (ev_mk rfl) (n_not _)) trivial ?_;refine rl0 (gn rfl) rfl rfl (step_as rfl rfl) trivial ?_;refine runsL_nil ?_;refine runs_ret ?_;obtain rfl : j = b.length := by omega
      refine ⟨t_17, fin_mkg (rest rfl res0) ?_ ?_ ?_ ?_ ?_⟩
      · exact t_86
      · exact t_1
      · exact t_147
      · exact t_45
      · exact t_1
set_option maxRecDepth 100000 in
set_option maxHeartbeats 4000000 in
theorem sum_c (b : List Int) (hb : Byts b) (hl : b.length ≤ 1000000000) : Does Try.prog 65 [.sl 1 (bytesV b)] [] [] (.sc (.int .u32 (nB (crcV b)))) := by
  refine does_mkg 40 Try.func65 rfl rfl rfl (fun n B bx hd hpre hup hvs hbx hgx => ?_);refine runs_seq ?_;refine runs_region ?_;refine rl0 (gn rfl) rfl rfl (step_as rfl rfl) trivial ?_;refine runsL_nil ?_;refine runs_seq ?_;refine runs_region ?_;refine rl0 (gn rfl) rfl rfl (step_mv rfl rfl) trivial ?_;refine rl0 (gn rfl) rfl rfl (step_callc rfl Try.func70 rfl rfl rfl (go_c 0#32 b hb hl) t_10) trivial ?_;refine rl0 (gn rfl) rfl rfl (step_as rfl rfl) trivial ?_;refine runsL_nil ?_;refine runs_ret ?_;refine ⟨t_17, fin_mkg (rest rfl res0) ?_ ?_ ?_ ?_ ?_⟩
  · exact t_2
  · exact t_1
  · exact t_142
  · exact t_45
  · exact t_1
set_option maxRecDepth 100000 in
set_option maxHeartbeats 4000000 in
theorem sput_c (b : List Int) (hb : Byts b) (hl : b.length ≤ 500000000) : Does Try.prog 64 [.sl 1 (bytesV b)] [] [] (.sl 1 (bytesV (sealB b))) := by
  refine does_mkg 40 Try.func64 rfl rfl rfl (fun n B bx hd hpre hup hvs hbx hgx => ?_);refine runs_seq ?_;refine runs_region ?_;refine rl0 (gn rfl) rfl rfl (step_as rfl rfl) trivial ?_;refine runsL_nil ?_;refine runs_seq ?_;refine runs_region ?_;refine rl0 (gn rfl) rfl rfl (step_mv rfl rfl) trivial ?_;refine rl0 (gn rfl) rfl rfl (step_callc rfl Try.func65 rfl rfl rfl (sum_c b hb (by omega)) t_10) trivial ?_;refine rl0 (gn rfl) rfl rfl (step_as rfl rfl) trivial ?_;refine runsL_nil ?_;refine runs_seq ?_;refine runs_region ?_;refine rl0 (gn rfl) rfl rfl (step_lit rfl Try.underlying22 F.sz5 F.zero5 t_33 t_139 (by decide) rfl rfl t_21 rfl) trivial ?_;refine rl0 (gn rfl) rfl rfl (step_mv rfl rfl) trivial ?_;refine' rl1 (gn rfl) rfl rfl (step_append_new (k := n + 0) rfl rfl rfl Try.underlying22 ⟨_, Try.underlying22, fun k_ => t_49⟩ F.el5 (ev_mk rfl) (.inl rfl) (ev_mk rfl) (gives_sl (.inl rfl)) ?hg) ⟨?hb, trivial⟩ (by omega) ?_
  case hb => exact t_0
  case hg => exact t_153
  refine rl0 (gn rfl) rfl rfl (step_mv rfl rfl) trivial ?_;refine rl0 (gn rfl) rfl rfl (step_convw (r := nB (crcV b) % 256) rfl rfl Try.underlying34 Try.underlying5 (by rw [wrap_u8])) trivial ?_;refine rl0 (gn rfl) rfl rfl (step_mv rfl rfl) trivial ?_;refine rl0 (gn rfl) rfl rfl (step_shr (r := nB (crcV b) / 256) rfl (ev_mk rfl) (ev_mk rfl) (by omega) (shr8 _)) trivial ?_;refine rl0 (gn rfl) rfl rfl (step_convw (r := nB (crcV b) / 256 % 256) rfl rfl Try.underlying34 Try.underlying5 (by rw [wrap_u8])) trivial ?_;refine rl0 (gn rfl) rfl rfl (step_mv rfl rfl) trivial ?_;refine rl0 (gn rfl) rfl rfl (step_shr (r := nB (crcV b) / 65536) rfl (ev_mk rfl) (ev_mk rfl) (by omega) (shr16 _)) trivial ?_;refine rl0 (gn rfl) rfl rfl (step_convw (r := nB (crcV b) / 65536 % 256) rfl rfl Try.underlying34 Try.underlying5 (by rw [wrap_u8])) trivial ?_;refine rl0 (gn rfl) rfl rfl (step_mv rfl rfl) trivial ?_;refine rl0 (gn rfl) rfl rfl (step_shr (r := nB (crcV b) / 16777216) rfl (ev_mk rfl) (ev_mk rfl) (by omega) (shr24 _)) trivial ?_;refine rl0 (gn rfl) rfl rfl (step_convw (r := nB (crcV b) / 16777216 % 256) rfl rfl Try.underlying34 Try.underlying5 (by rw [wrap_u8])) trivial ?_;refine rl0 (gn rfl) rfl rfl (step_lit rfl Try.underlying22 F.sz5 F.zero5 t_33 t_139 (by decide) rfl rfl t_21 rfl) trivial ?_;refine' rl1 (gn rfl) rfl rfl (step_append_own rfl rfl rfl Try.underlying22 ⟨_, Try.underlying22, fun k_ => t_49⟩ F.el5 (ev_mk rfl) (ev_mk rfl) (gives_sl (.inr (.inl rfl))) ?hg) ⟨?hb, trivial⟩ (by omega) ?_
  case hb => exact t_0
  case hg => exact t_153
  refine rl0 (gn rfl) rfl rfl (step_as rfl rfl) trivial ?_;refine runsL_nil ?_;refine runs_ret ?_;refine ⟨t_17, fin_mkg (rest rfl res0) ?_ ?_ ?_ ?_ ?_⟩
  · exact t_83
  · exact t_1
  · exact t_142
  · exact t_45
  · exact t_1
set_option maxRecDepth 100000 in
set_option maxHeartbeats 4000000 in
theorem sget_c (b : List Int) (hb : Byts b) (hl : b.length ≤ 500000000) : Does Try.prog 52 [.sl 1 (bytesV b)] [] [] (.tup [.sl 1 (bytesV (sealG b)), .sc (.bool (sealOK b))]) := by
  refine does_mkg 40 Try.func52 rfl rfl rfl (fun n B bx hd hpre hup hvs hbx hgx => ?_);refine runs_seq ?_;refine runs_region ?_;refine rl0 (gn rfl) rfl rfl (step_as rfl rfl) trivial ?_;refine rl0 (gn rfl) rfl rfl (step_as rfl rfl) trivial ?_;refine runsL_nil ?_;refine runs_seq ?_;refine runs_region ?_;refine rl0 (gn rfl) rfl rfl (step_mv rfl rfl) trivial ?_;refine rl0 (gn rfl) rfl rfl (step_len (m := b.length) rfl rfl (ev_mk rfl) (.inl ⟨⟨_, Try.underlying22⟩, .inl ⟨_, _, .inl rfl, List.length_map _⟩⟩)) trivial ?_;refine rl0 (gn rfl) rfl rfl (step_sub rfl (ev_mk rfl) (ev_mk rfl) (w64 (by omega))) trivial ?_;refine rl0 (gn rfl) rfl rfl (step_as rfl rfl) trivial ?_;refine runsL_nil ?_;refine runs_seq ?_;refine runs_seq ?_;refine runs_region ?_;refine rl0 (gn rfl) rfl rfl (step_mv rfl rfl) trivial ?_;refine rl_lss (gn rfl) rfl rfl rfl rfl rfl (fun h1 => ?_) (fun h1 => ?_)
  · skip
    refine runsL_nil ?_;refine runs_cond true (ev_mk rfl) (fun _ => ?_) (fun h_ => nomatch h_);refine runs_seq ?_;refine runs_region ?_;refine rl0 (gn rfl) rfl rfl (step_as rfl rfl) trivial ?_;refine rl0 (gn rfl) rfl rfl (step_as rfl rfl) trivial ?_;refine runsL_nil ?_;refine runs_ret ?_;have hok : sealOK b = false := t_71;have hg : sealG b = [] := if_neg (by rw [hok]; simp);rw [hok, hg];refine ⟨t_17, fin_mkg (rest rfl (rest rfl res0)) ?_ ?_ ?_ ?_ ?_⟩
    · exact t_2
    · exact t_1
    · exact t_142
    · exact t_45
    · exact t_1
  · skip
    refine runsL_nil ?_;refine runs_cond false (ev_mk rfl) (fun h_ => nomatch h_) (fun _ => ?_);refine runs_skip ?_;refine runs_seq ?_;refine runs_seq ?_;refine runs_region ?_;refine rl0 (gn rfl) rfl rfl (step_mv rfl rfl) trivial ?_;refine rl0 (gn rfl) rfl rfl (step_mv rfl rfl) trivial ?_;refine rl0 (gn rfl) rfl rfl (step_slice (ys := bytesV (b.take (b.length - 4))) (l := 0) (h := (b.length - 4)) rfl (ev_mk rfl) (.inl rfl) Try.underlying22 F.sz5 bndLo_none (bndHi_nat (a := (b.length - 4)) rfl t_46) t_72 (by simp [bytesV]) (by simp [bytesV])) trivial ?_;refine rl0 (gn rfl) rfl rfl (step_callc rfl Try.func65 rfl rfl rfl (sum_c (b.take (b.length - 4)) (bytes_take hb _) (by simp; omega)) t_10) trivial ?_;refine rl0 (gn rfl) rfl rfl (step_as rfl rfl) trivial ?_;refine runsL_nil ?_;refine runs_seq ?_;refine runs_region ?_;refine rl0 (gn rfl) rfl rfl (step_mv rfl rfl) trivial ?_;refine rl0 (gn rfl) rfl rfl (step_mv rfl rfl) trivial ?_;refine' rl0 (gn rfl) rfl rfl (step_index rfl (ev_mk rfl) (.inl rfl) (ev_mk rfl) Try.underlying22 F.sz5 (by omega) ?hr) trivial ?_
    case hr => exact t_31
    refine rl0 (gn rfl) rfl rfl (step_load_ro rfl (ev_mk rfl) F.one5 rfl) trivial ?_;refine rl0 (gn rfl) rfl rfl (step_mv rfl rfl) trivial ?_;refine rl0 (gn rfl) rfl rfl (step_convw (r := nB (crcV (b.take (b.length - 4))) % 256) rfl rfl Try.underlying34 Try.underlying5 (by rw [wrap_u8])) trivial ?_;refine rl_neq (gn rfl) rfl rfl rfl rfl rfl (fun h2 => ?_) (fun h2 => ?_)
    · skip
      refine rl0 (gn rfl) rfl rfl (step_mv rfl rfl) trivial ?_;refine rlk rfl rfl rfl rfl rfl (ngb rfl rfl) rfl rfl ?_;refine rlk rfl rfl rfl rfl rfl (ngb rfl rfl) rfl rfl ?_;refine rlk rfl rfl rfl rfl rfl (ngb rfl rfl) rfl rfl ?_;refine rlk rfl rfl rfl rfl rfl (ngb rfl rfl) rfl rfl ?_;refine rlk rfl rfl rfl rfl rfl (ngb rfl rfl) rfl rfl ?_;refine rlk rfl rfl rfl rfl rfl (ngb rfl rfl) rfl rfl ?_;refine rlk rfl rfl rfl rfl rfl (ngb rfl rfl) rfl rfl ?_;refine rlk rfl rfl rfl rfl rfl (ngb rfl rfl) rfl rfl ?_;refine rlk rfl rfl rfl rfl rfl (ngb rfl rfl) rfl rfl ?_;refine rl0 (gn rfl) rfl rfl (step_pick rfl (ev_mk rfl) (ev_mk rfl)) trivial ?_;refine rl0 (gn rfl) rfl rfl (step_mv rfl rfl) trivial ?_;refine rlk rfl rfl rfl rfl rfl (ngb rfl rfl) rfl rfl ?_;refine rlk rfl rfl rfl rfl rfl (ngb rfl rfl) rfl rfl ?_;refine rlk rfl rfl rfl rfl rfl (ngb rfl rfl) rfl rfl ?_;refine rlk rfl rfl rfl rfl rfl (ngb rfl rfl) rfl rfl ?_;refine rlk rfl rfl rfl rfl rfl (ngb rfl rfl) rfl rfl ?_;refine rlk rfl rfl rfl rfl rfl (ngb rfl rfl) rfl rfl ?_;refine rlk rfl rfl rfl rfl rfl (ngb rfl rfl) rfl rfl ?_;refine rlk rfl rfl rfl rfl rfl (ngb rfl rfl) rfl rfl ?_;refine rlk rfl rfl rfl rfl rfl (ngb rfl rfl) rfl rfl ?_;refine rl0 (gn rfl) rfl rfl (step_pick rfl (ev_mk rfl) (ev_mk rfl)) trivial ?_;refine rl0 (gn rfl) rfl rfl (step_mv rfl rfl) trivial ?_;refine rlk rfl rfl rfl rfl rfl (ngb rfl rfl) rfl rfl ?_;refine rlk rfl rfl rfl rfl rfl (ngb rfl rfl) rfl rfl ?_;refine rlk rfl rfl rfl rfl rfl (ngb rfl rfl) rfl rfl ?_;refine rlk rfl rfl rfl rfl rfl (ngb rfl rfl) rfl rfl ?_;refine rlk rfl rfl rfl rfl rfl (ngb rfl rfl) rfl rfl ?_;refine rlk rfl rfl rfl rfl rfl (ngb rfl rfl) rfl rfl ?_;refine rlk rfl rfl rfl rfl rfl (ngb rfl rfl) rfl rfl ?_;refine rlk rfl rfl rfl rfl rfl (ngb rfl rfl) rfl rfl ?_;refine rlk rfl rfl rfl rfl rfl (ngb rfl rfl) rfl rfl ?_;refine rl0 (gn rfl) rfl rfl (step_pick rfl (ev_mk rfl) (ev_mk rfl)) trivial ?_;refine runsL_nil ?_;refine runs_cond true (ev_mk rfl) (fun _ => ?_) (fun h_ => nomatch h_);refine runs_seq ?_;refine runs_region ?_;refine rl0 (gn rfl) rfl rfl (step_as rfl rfl) trivial ?_;refine rl0 (gn rfl) rfl rfl (step_as rfl rfl) trivial ?_;refine runsL_nil ?_;refine runs_ret ?_;have hok : sealOK b = false := t_71;have hg : sealG b = [] := if_neg (by rw [hok]; simp);rw [hok, hg];refine ⟨t_17, fin_mkg (rest rfl (rest rfl res0)) ?_ ?_ ?_ ?_ ?_⟩
      · exact t_2
      · exact t_1
      · exact t_142
      · exact t_45
      · exact t_1
    · skip
      refine rl0 (gn rfl) rfl rfl (step_mv rfl rfl) trivial ?_;refine rl0 (gy rfl rfl rfl rfl rfl rfl) rfl rfl (step_mv rfl rfl) trivial ?_;refine rl0 (gy rfl rfl rfl rfl rfl rfl) rfl rfl (step_mv rfl rfl) trivial ?_;refine rl0 (gy rfl rfl rfl rfl rfl rfl) rfl rfl (step_add rfl (ev_mk rfl) (ev_mk rfl) (w64 (by omega))) trivial ?_;refine' rl0 (gy rfl rfl rfl rfl rfl rfl) rfl rfl (step_index rfl (ev_mk rfl) (.inl rfl) (ev_mk rfl) Try.underlying22 F.sz5 (by omega) ?hr) trivial ?_
      case hr => exact t_31
      refine rl0 (gy rfl rfl rfl rfl rfl rfl) rfl rfl (step_load_ro rfl (ev_mk rfl) F.one5 rfl) trivial ?_;refine rl0 (gy rfl rfl rfl rfl rfl rfl) rfl rfl (step_mv rfl rfl) trivial ?_;refine rl0 (gy rfl rfl rfl rfl rfl rfl) rfl rfl (step_shr (r := nB (crcV (b.take (b.length - 4))) / 256) rfl (ev_mk rfl) (ev_mk rfl) (by omega) (shr8 _)) trivial ?_;refine rl0 (gy rfl rfl rfl rfl rfl rfl) rfl rfl (step_convw (r := nB (crcV (b.take (b.length - 4))) / 256 % 256) rfl rfl Try.underlying34 Try.underlying5 (by rw [wrap_u8])) trivial ?_;refine rl_neq (gy rfl rfl rfl rfl rfl rfl) rfl rfl rfl rfl rfl (fun h3 => ?_) (fun h3 => ?_)
      · skip
        refine rl0 (gn rfl) rfl rfl (step_pick rfl (ev_mk rfl) (ev_mk rfl)) trivial ?_;refine rl0 (gn rfl) rfl rfl (step_mv rfl rfl) trivial ?_;refine rlk rfl rfl rfl rfl rfl (ngb rfl rfl) rfl rfl ?_;refine rlk rfl rfl rfl rfl rfl (ngb rfl rfl) rfl rfl ?_;refine rlk rfl rfl rfl rfl rfl (ngb rfl rfl) rfl rfl ?_;refine rlk rfl rfl rfl rfl rfl (ngb rfl rfl) rfl rfl ?_;refine rlk rfl rfl rfl rfl rfl (ngb rfl rfl) rfl rfl ?_;refine rlk rfl rfl rfl rfl rfl (ngb rfl rfl) rfl rfl ?_;refine rlk rfl rfl rfl rfl rfl (ngb rfl rfl) rfl rfl ?_;refine rlk rfl rfl rfl rfl rfl (ngb rfl rfl) rfl rfl ?_;refine rlk rfl rfl rfl rfl rfl (ngb rfl rfl) rfl rfl ?_;refine rl0 (gn rfl) rfl rfl (step_pick rfl (ev_mk rfl) (ev_mk rfl)) trivial ?_;refine rl0 (gn rfl) rfl rfl (step_mv rfl rfl) trivial ?_;refine rlk rfl rfl rfl rfl rfl (ngb rfl rfl) rfl rfl ?_;refine rlk rfl rfl rfl rfl rfl (ngb rfl rfl) rfl rfl ?_;refine rlk rfl rfl rfl rfl rfl (ngb rfl rfl) rfl rfl ?_;refine rlk rfl rfl rfl rfl rfl (ngb rfl rfl) rfl rfl ?_;refine rlk rfl rfl rfl rfl rfl (ngb rfl rfl) rfl rfl ?_;refine rlk rfl rfl rfl rfl rfl (ngb rfl rfl) rfl rfl ?_;refine rlk rfl rfl rfl rfl rfl (ngb rfl rfl) rfl rfl ?_;refine rlk rfl rfl rfl rfl rfl (ngb rfl rfl) rfl rfl ?_;refine rlk rfl rfl rfl rfl rfl (ngb rfl rfl) rfl rfl ?_;refine rl0 (gn rfl) rfl rfl (step_pick rfl (ev_mk rfl) (ev_mk rfl)) trivial ?_;refine runsL_nil ?_;refine runs_cond true (ev_mk rfl) (fun _ => ?_) (fun h_ => nomatch h_);refine runs_seq ?_;refine runs_region ?_;refine rl0 (gn rfl) rfl rfl (step_as rfl rfl) trivial ?_;refine rl0 (gn rfl) rfl rfl (step_as rfl rfl) trivial ?_;refine runsL_nil ?_;refine runs_ret ?_;have hok : sealOK b = false := t_71;have hg : sealG b = [] := if_neg (by rw [hok]; simp);rw [hok, hg];refine ⟨t_17, fin_mkg (rest rfl (rest rfl res0)) ?_ ?_ ?_ ?_ ?_⟩
        · exact t_2
        · exact t_1
        · exact t_142
        · exact t_45
        · exact t_1
      · skip
        refine rl0 (gn rfl) rfl rfl (step_pick rfl (ev_mk rfl) (ev_mk rfl)) trivial ?_;refine rl0 (gn rfl) rfl rfl (step_mv rfl rfl) trivial ?_;refine rl0 (gy rfl rfl rfl rfl rfl rfl) rfl rfl (step_mv rfl rfl) trivial ?_;refine rl0 (gy rfl rfl rfl rfl rfl rfl) rfl rfl (step_mv rfl rfl) trivial ?_;refine rl0 (gy rfl rfl rfl rfl rfl rfl) rfl rfl (step_add rfl (ev_mk rfl) (ev_mk rfl) (w64 (by omega))) trivial ?_;refine' rl0 (gy rfl rfl rfl rfl rfl rfl) rfl rfl (step_index rfl (ev_mk rfl) (.inl rfl) (ev_mk rfl) Try.underlying22 F.sz5 (by omega) ?hr) trivial ?_
        case hr => exact t_31
        refine rl0 (gy rfl rfl rfl rfl rfl rfl) rfl rfl (step_load_ro rfl (ev_mk rfl) F.one5 rfl) trivial ?_;refine rl0 (gy rfl rfl rfl rfl rfl rfl) rfl rfl (step_mv rfl rfl) trivial ?_;refine rl0 (gy rfl rfl rfl rfl rfl rfl) rfl rfl (step_shr (r := nB (crcV (b.take (b.length - 4))) / 65536) rfl (ev_mk rfl) (ev_mk rfl) (by omega) (shr16 _)) trivial ?_;refine rl0 (gy rfl rfl rfl rfl rfl rfl) rfl rfl (step_convw (r := nB (crcV (b.take (b.length - 4))) / 65536 % 256) rfl rfl Try.underlying34 Try.underlying5 (by rw [wrap_u8])) trivial ?_;refine rl_neq (gy rfl rfl rfl rfl rfl rfl) rfl rfl rfl rfl rfl (fun h4 => ?_) (fun h4 => ?_)
        · skip
          refine rl0 (gn rfl) rfl rfl (step_pick rfl (ev_mk rfl) (ev_mk rfl)) trivial ?_;refine rl0 (gn rfl) rfl rfl (step_mv rfl rfl) trivial ?_;refine rlk rfl rfl rfl rfl rfl (ngb rfl rfl) rfl rfl ?_;refine rlk rfl rfl rfl rfl rfl (ngb rfl rfl) rfl rfl ?_;refine rlk rfl rfl rfl rfl rfl (ngb rfl rfl) rfl rfl ?_;refine rlk rfl rfl rfl rfl rfl (ngb rfl rfl) rfl rfl ?_;refine rlk rfl rfl rfl rfl rfl (ngb rfl rfl) rfl rfl ?_;refine rlk rfl rfl rfl rfl rfl (ngb rfl rfl) rfl rfl ?_;refine rlk rfl rfl rfl rfl rfl (ngb rfl rfl) rfl rfl ?_;refine rlk rfl rfl rfl rfl rfl (ngb rfl rfl) rfl rfl ?_;refine rlk rfl rfl rfl rfl rfl (ngb rfl rfl) rfl rfl ?_;refine rl0 (gn rfl) rfl rfl (step_pick rfl (ev_mk rfl) (ev_mk rfl)) trivial ?_;refine runsL_nil ?_;refine runs_cond true (ev_mk rfl) (fun _ => ?_) (fun h_ => nomatch h_);refine runs_seq ?_;refine runs_region ?_;refine rl0 (gn rfl) rfl rfl (step_as rfl rfl) trivial ?_;refine rl0 (gn rfl) rfl rfl (step_as rfl rfl) trivial ?_;refine runsL_nil ?_;refine runs_ret ?_;have hok : sealOK b = false := t_71;have hg : sealG b = [] := if_neg (by rw [hok]; simp);rw [hok, hg];refine ⟨t_17, fin_mkg (rest rfl (rest rfl res0)) ?_ ?_ ?_ ?_ ?_⟩
          · exact t_2
          · exact t_1
          · exact t_142
          · exact t_45
          · exact t_1
        · skip
          refine rl0 (gn rfl) rfl rfl (step_pick rfl (ev_mk rfl) (ev_mk rfl)) trivial ?_;refine rl0 (gn rfl) rfl rfl (step_mv rfl rfl) trivial ?_;refine rl0 (gy rfl rfl rfl rfl rfl rfl) rfl rfl (step_mv rfl rfl) trivial ?_;refine rl0 (gy rfl rfl rfl rfl rfl rfl) rfl rfl (step_mv rfl rfl) trivial ?_;refine rl0 (gy rfl rfl rfl rfl rfl rfl) rfl rfl (step_add rfl (ev_mk rfl) (ev_mk rfl) (w64 (by omega))) trivial ?_;refine' rl0 (gy rfl rfl rfl rfl rfl rfl) rfl rfl (step_index rfl (ev_mk rfl) (.inl rfl) (ev_mk rfl) Try.underlying22 F.sz5 (by omega) ?hr) trivial ?_
          case hr => exact t_31
          refine rl0 (gy rfl rfl rfl rfl rfl rfl) rfl rfl (step_load_ro rfl (ev_mk rfl) F.one5 rfl) trivial ?_;refine rl0 (gy rfl rfl rfl rfl rfl rfl) rfl rfl (step_mv rfl rfl) trivial ?_;refine rl0 (gy rfl rfl rfl rfl rfl rfl) rfl rfl (step_shr (r := nB (crcV (b.take (b.length - 4))) / 16777216) rfl (ev_mk rfl) (ev_mk rfl) (by omega) (shr24 _)) trivial ?_;refine rl0 (gy rfl rfl rfl rfl rfl rfl) rfl rfl (step_convw (r := nB (crcV (b.take (b.length - 4))) / 16777216 % 256) rfl rfl Try.underlying34 Try.underlying5 (by rw [wrap_u8])) trivial ?_;refine rl_neq (gy rfl rfl rfl rfl rfl rfl) rfl rfl rfl rfl rfl (fun h5 => ?_) (fun h5 => ?_)
          · skip
            refine rl0 (gn rfl) rfl rfl (step_pick rfl (ev_mk rfl) (ev_mk rfl)) trivial ?_;refine runsL_nil ?_;refine runs_cond true (ev_mk rfl) (fun _ => ?_) (fun h_ => nomatch h_);refine runs_seq ?_;refine runs_region ?_;refine rl0 (gn rfl) rfl rfl (step_as rfl rfl) trivial ?_;refine rl0 (gn rfl) rfl rfl (step_as rfl rfl) trivial ?_;refine runsL_nil ?_;refine runs_ret ?_;have hok : sealOK b = false := t_71;have hg : sealG b = [] := if_neg (by rw [hok]; simp);rw [hok, hg];refine ⟨t_17, fin_mkg (rest rfl (rest rfl res0)) ?_ ?_ ?_ ?_ ?_⟩
            · exact t_2
            · exact t_1
            · exact t_142
            · exact t_45
            · exact t_1
          · skip
            refine rl0 (gn rfl) rfl rfl (step_pick rfl (ev_mk rfl) (ev_mk rfl)) trivial ?_;refine runsL_nil ?_;refine runs_cond false (ev_mk rfl) (fun h_ => nomatch h_) (fun _ => ?_);refine runs_skip ?_;refine runs_seq ?_;refine runs_region ?_;refine rl0 (gn rfl) rfl rfl (step_lit rfl Try.underlying22 F.sz5 F.zero5 t_33 t_139 (by decide) rfl rfl t_21 rfl) trivial ?_;refine rl0 (gn rfl) rfl rfl (step_mv rfl rfl) trivial ?_;refine rl0 (gn rfl) rfl rfl (step_mv rfl rfl) trivial ?_;refine rl0 (gn rfl) rfl rfl (step_slice (ys := bytesV (b.take (b.length - 4))) (l := 0) (h := (b.length - 4)) rfl (ev_mk rfl) (.inl rfl) Try.underlying22 F.sz5 bndLo_none (bndHi_nat (a := (b.length - 4)) rfl t_46) t_72 (by simp [bytesV]) (by simp [bytesV])) trivial ?_;refine' rl1 (gn rfl) rfl rfl (step_append_new (k := n + 0) rfl rfl rfl Try.underlying22 ⟨_, Try.underlying22, fun k_ => t_49⟩ F.el5 (ev_mk rfl) (.inl rfl) (ev_mk rfl) (gives_sl (.inl rfl)) ?hg) ⟨?hb, trivial⟩ (by omega) ?_
            case hb => exact t_0
            case hg => exact t_153
            refine rl0 (gn rfl) rfl rfl (step_as rfl rfl) trivial ?_;refine rl0 (gn rfl) rfl rfl (step_as rfl rfl) trivial ?_;refine runsL_nil ?_;refine runs_ret ?_;have hok : sealOK b = true := decide_eq_true ⟨by omega, by rw [drop4 (by omega)]; simp only [q4, List.cons.injEq, and_true]; exact ⟨by omega, by omega, by omega, by omega⟩⟩;have hg : sealG b = (b.take (b.length - 4)) := if_pos hok;rw [hok, hg];refine ⟨t_17, fin_mkg (rest rfl (rest rfl res0)) ?_ ?_ ?_ ?_ ?_⟩
            · exact t_2
            · exact t_1
            · exact t_142
            · exact t_45
            · exact t_1
theorem bit_of {c m : Nat} (hm : m < 8) (hc : c < 256) : ((c : Int)).fdiv (2 ^ (min (m : Int).toNat IntKind.u8.bits)) = nB (BitVec.ofNat 32 (c / 2 ^ m)) := by
  have e : min (m : Int).toNat IntKind.u8.bits = m := by show min (m : Int).toNat 8 = m; omega
  have hd : c / 2 ^ m ≤ c := Nat.div_le_self _ _
  rw [e, Int.fdiv_eq_ediv_of_nonneg _ (Int.pow_nonneg (by decide)), n_ofNat _ (by omega)]
  rw [Int.natCast_ediv, Int.natCast_pow]; rfl
theorem bit_and {c m : Nat} (hc : c < 256) : bits .and .u32 (nB (BitVec.ofNat 32 (c / 2 ^ m))) 1 = nB (BitVec.ofNat 32 (c / 2 ^ m % 2)) := by
  rw [n_and1]; congr 1
  apply BitVec.eq_of_toNat_eq
  have hd : c / 2 ^ m ≤ c := Nat.div_le_self _ _
  rw [BitVec.toNat_and, show (1#32 : BitVec 32).toNat = 1 from rfl, Nat.and_one_is_mod, BitVec.toNat_ofNat, BitVec.toNat_ofNat, Nat.mod_eq_of_lt (show c / 2 ^ m < 2 ^ 32 by omega), Nat.mod_eq_of_lt (show c / 2 ^ m % 2 < 2 ^ 32 by omega)]
theorem M_bit (s : BitVec 32) (e : Nat) (he : e < 2) : M (s ^^^ BitVec.ofNat 32 e) = if nB (BitVec.ofNat 32 e) = nB (s &&& 1#32) then s >>> 1 else (s >>> 1) ^^^ 0x82f63b78#32 := by
  unfold M
  have h0 : BitVec.ofNat 32 e >>> 1 = 0#32 := by
    apply BitVec.eq_of_toNat_eq
    rw [BitVec.toNat_ushiftRight, BitVec.toNat_ofNat, Nat.shiftRight_eq_div_pow]; simp; omega
  have h1 : (BitVec.ofNat 32 e).getLsbD 0 = decide (e = 1) := by
    rw [BitVec.getLsbD_ofNat, Nat.testBit_zero]; simp; omega
  rw [BitVec.ushiftRight_xor_distrib, BitVec.getLsbD_xor, h0, h1, BitVec.xor_zero, n_ofNat _ (by omega)]
  have hb := n_bit s
  have h3 : nB (s &&& 1#32) = 0 ∨ nB (s &&& 1#32) = 1 := by simp [nB, Nat.and_one_is_mod]; omega
  rcases (show e = 0 ∨ e = 1 by omega) with rfl | rfl
  · cases hv : s.getLsbD 0
    · rw [hv] at hb
      have : nB (s &&& 1#32) = 0 := by rcases h3 with h | h; exact h; exact absurd (hb.1 h) (by simp)
      simp [this]
    · have := hb.2 hv
      simp [this]
  · cases hv : s.getLsbD 0
    · rw [hv] at hb
      have : nB (s &&& 1#32) = 0 := by rcases h3 with h | h; exact h; exact absurd (hb.1 h) (by simp)
      simp [this]
    · have := hb.2 hv
      simp [this]
theorem M_same (s : BitVec 32) (e : Nat) (he : e < 2) (h : nB (BitVec.ofNat 32 e) = nB (s &&& 1#32)) : s >>> 1 = M (s ^^^ BitVec.ofNat 32 e) := by rw [M_bit s e he, if_pos h]
theorem M_diff (s : BitVec 32) (e : Nat) (he : e < 2) (h : ¬ nB (BitVec.ofNat 32 e) = nB (s &&& 1#32)) : (s >>> 1) ^^^ 0x82f63b78#32 = M (s ^^^ BitVec.ofNat 32 e) := by rw [M_bit s e he, if_neg h]
set_option maxRecDepth 100000 in
set_option maxHeartbeats 4000000 in
theorem rsum_c (b : List Int) (hb : Byts b) (hl : b.length ≤ 1000000000) : Does Try.prog 50 [.sl 1 (bytesV b)] [] [] (.sc (.int .u32 (nB (crcV b)))) := by
  refine does_mkg 40 Try.func50 rfl rfl rfl (fun n B bx hd hpre hup hvs hbx hgx => ?_);refine runs_seq ?_;refine runs_region ?_;refine rl0 (gn rfl) rfl rfl (step_as rfl rfl) trivial ?_;refine runsL_nil ?_;refine runs_seq ?_;refine runs_region ?_;refine rl0 (gn rfl) rfl rfl (step_as rfl rfl) trivial ?_;refine runsL_nil ?_;refine runs_seq ?_;refine runs_seq ?_;refine runs_region ?_;refine rl0 (gn rfl) rfl rfl (step_as rfl rfl) trivial ?_;refine runsL_nil ?_;refine runs_block ?_;have hs0_ : 4294967295 = nB (crcF (~~~ 0#32) (b.take 0)) := by rfl
  refine runs_loop (fun (ri_ : Nat) (st_ : Go.Vm.S) => ∃ (j : Nat) (m0 : Nat) (b0 : Nat → Box), (st_ = ⟨mk [(0, .sl 1 (bytesV b)), (2, .sc (.int .u32 0)), (3, .sc (.int .u32 (nB (crcF (~~~ 0#32) (b.take j))))), (4, .sc (.int .i64 j))], m0, b0⟩) ∧ (ri_ = b.length - j) ∧ (n + 0 ≤ m0) ∧ (∀ k_, k_ < n → b0 k_ = bx k_) ∧ (j ≤ b.length)) (b.length - 0) ⟨_, sle ?_ (Nat.le_refl _), 0, _, _, rfl, rfl, ?_⟩ ?_
  · exact t_11
  · exact t_156
  · rintro _ _ ⟨j, m0, b0, rfl, rfl, hm0, hf0, hF0_0⟩
    refine runs_know (fun hd0 => ?_);refine runs_bump 20 ?_;simp only at hd0;refine runs_seq ?_;refine runs_seq ?_;refine runs_region ?_;refine rl0 (gn rfl) rfl rfl (step_mv rfl rfl) trivial ?_;refine rl0 (gn rfl) rfl rfl (step_mv rfl rfl) trivial ?_;refine rl0 (gn rfl) rfl rfl (step_len (m := b.length) rfl rfl (ev_mk rfl) (.inl ⟨⟨_, Try.underlying22⟩, .inl ⟨_, _, .inl rfl, List.length_map _⟩⟩)) trivial ?_;refine rl_lss (gn rfl) rfl rfl rfl rfl rfl (fun h1 => ?_) (fun h1 => ?_)
    · skip
      have hc9 : (at' b (j : Int)).toNat < 256 := by have h_ := at_any hb (j : Int); omega
      have hcc : at' b (j : Int) = (((at' b (j : Int)).toNat : Nat) : Int) := by have h_ := at_any hb (j : Int); omega
      refine runsL_nil ?_;refine runs_cond true (ev_mk rfl) (fun _ => ?_) (fun h_ => nomatch h_);refine runs_skip ?_;refine runs_seq ?_;refine runs_block ?_;refine runs_seq ?_;refine runs_region ?_;refine rl0 (gn rfl) rfl rfl (step_as rfl rfl) trivial ?_;refine runsL_nil ?_;refine runs_block ?_;have hs0_ : nB (crcF (~~~ 0#32) (b.take j)) = (nB (G (crcF (~~~ 0#32) (b.take j)) (at' b (j : Int)).toNat 0)) := by rfl
      refine runs_loop (fun (ri_ : Nat) (st_ : Go.Vm.S) => ∃ (m : Nat) (m1 : Nat) (b1 : Nat → Box), (st_ = ⟨mk [(0, .sl 1 (bytesV b)), (2, .sc (.int .u32 0)), (3, .sc (.int .u32 (nB (G (crcF (~~~ 0#32) (b.take j)) (at' b (j : Int)).toNat m)))), (4, .sc (.int .i64 j)), (5, .sc (.int .i64 m)), (8, .sc (.int .i64 j)), (9, .sl 1 (bytesV b)), (10, .sc (.int .i64 b.length)), (11, .sc (.bool true))], m1, b1⟩) ∧ (ri_ = 8 - m) ∧ (m0 + 0 ≤ m1) ∧ (∀ k_, k_ < n → b1 k_ = bx k_) ∧ (m ≤ 8)) (8 - 0) ⟨_, sle ?_ (Nat.le_refl _), 0, _, _, rfl, rfl, ?_⟩ ?_
      · exact t_11
      · exact ⟨by omega, (fun k_ hk_ => t_18), by omega⟩
      · rintro _ _ ⟨m, m1, b1, rfl, rfl, hm1, hf1, hF1_0⟩
        refine runs_know (fun hd1 => ?_);refine runs_bump 20 ?_;simp only at hd1;refine runs_seq ?_;refine runs_seq ?_;refine runs_region ?_;refine rl0 (gn rfl) rfl rfl (step_mv rfl rfl) trivial ?_;refine rl_lss (gn rfl) rfl rfl rfl rfl rfl (fun h2 => ?_) (fun h2 => ?_)
        · skip
          refine runsL_nil ?_;refine runs_cond true (ev_mk rfl) (fun _ => ?_) (fun h_ => nomatch h_);refine runs_skip ?_;refine runs_seq ?_;refine runs_block ?_;refine runs_seq ?_;refine runs_region ?_;refine rl0 (gn rfl) rfl rfl (step_mv rfl rfl) trivial ?_;refine rl0 (gn rfl) rfl rfl (step_mv rfl rfl) trivial ?_;refine' rl0 (gn rfl) rfl rfl (step_index rfl (ev_mk rfl) (.inl rfl) (ev_mk rfl) Try.underlying22 F.sz5 (by omega) ?hr) trivial ?_
          case hr => exact t_31
          refine rl0 (gn rfl) rfl rfl (step_load_ro rfl (ev_mk rfl) F.one5 rfl) trivial ?_;refine rl0 (gn rfl) rfl rfl (step_mv rfl rfl) trivial ?_;refine rl0 (gn rfl) rfl rfl (step_convw (r := (m : Int)) rfl rfl Try.underlying3 Try.underlying104 (wu64 (by omega))) trivial ?_;refine rl0 (gn rfl) rfl rfl (step_shr (r := nB (BitVec.ofNat 32 ((at' b (j : Int)).toNat / 2 ^ m))) rfl (ev_mk rfl) (ev_mk rfl) (by omega) (by rw [hcc]; exact bit_of (by omega) hc9)) trivial ?_;refine rl0 (gn rfl) rfl rfl (step_convw (r := nB (BitVec.ofNat 32 ((at' b (j : Int)).toNat / 2 ^ m))) rfl rfl Try.underlying5 Try.underlying34 (wu32 (by have h_ := n_lt (BitVec.ofNat 32 ((at' b (j : Int)).toNat / 2 ^ m)); omega))) trivial ?_;refine rl0 (gn rfl) rfl rfl (step_bits (r := nB (BitVec.ofNat 32 ((at' b (j : Int)).toNat / 2 ^ m % 2))) rfl (ev_mk rfl) (ev_mk rfl) (.inl rfl) (bit_and hc9)) trivial ?_;refine rl0 (gn rfl) rfl rfl (step_as rfl rfl) trivial ?_;refine runsL_nil ?_;refine runs_seq ?_;refine runs_region ?_;refine rl0 (gn rfl) rfl rfl (step_mv rfl rfl) trivial ?_;refine rl0 (gn rfl) rfl rfl (step_bits (r := nB (G (crcF (~~~ 0#32) (b.take j)) (at' b (j : Int)).toNat m &&& 1#32)) rfl (ev_mk rfl) (ev_mk rfl) (.inl rfl) (n_and1 _)) trivial ?_;refine rl0 (gn rfl) rfl rfl (step_as rfl rfl) trivial ?_;refine runsL_nil ?_;refine runs_seq ?_;refine runs_region ?_;refine rl0 (gn rfl) rfl rfl (step_mv rfl rfl) trivial ?_;refine rl0 (gn rfl) rfl rfl (step_shr (r := nB (G (crcF (~~~ 0#32) (b.take j)) (at' b (j : Int)).toNat m >>> 1)) rfl (ev_mk rfl) (ev_mk rfl) (by omega) (shr1 _)) trivial ?_;refine rl0 (gn rfl) rfl rfl (step_as rfl rfl) trivial ?_;refine runsL_nil ?_;refine runs_seq ?_;refine runs_region ?_;refine rl0 (gn rfl) rfl rfl (step_mv rfl rfl) trivial ?_;refine rl0 (gn rfl) rfl rfl (step_mv rfl rfl) trivial ?_;refine rl_neq (gn rfl) rfl rfl rfl rfl rfl (fun h3 => ?_) (fun h3 => ?_)
          · skip
            refine runsL_nil ?_;refine runs_cond true (ev_mk rfl) (fun _ => ?_) (fun h_ => nomatch h_);refine runs_region ?_;refine rl0 (gn rfl) rfl rfl (step_mv rfl rfl) trivial ?_;refine rl0 (gn rfl) rfl rfl (step_bits (r := nB ((G (crcF (~~~ 0#32) (b.take j)) (at' b (j : Int)).toNat m >>> 1) ^^^ 0x82f63b78#32)) rfl (ev_mk rfl) (ev_mk rfl) (.inr (.inr (.inl rfl))) (n_poly _)) trivial ?_;refine rl0 (gn rfl) rfl rfl (step_as rfl rfl) trivial ?_;refine runsL_nil ?_;refine runs_region ?_;refine rl0 (gn rfl) rfl rfl (step_mv rfl rfl) trivial ?_;refine rl0 (gn rfl) rfl rfl (step_add rfl (ev_mk rfl) (ev_mk rfl) (w64 (by omega))) trivial ?_;refine rl0 (gn rfl) rfl rfl (step_as rfl rfl) trivial ?_;refine runsL_nil ?_;have hq0_ : (nB ((G (crcF (~~~ 0#32) (b.take j)) (at' b (j : Int)).toNat m >>> 1) ^^^ 0x82f63b78#32)) = (nB (G (crcF (~~~ 0#32) (b.take j)) (at' b (j : Int)).toNat (m + 1))) := t_101;refine ⟨_, _, ?_, sle ?_ (Nat.le_refl _), (m + 1), _, _, rfl, rfl, by omega, (fun k_ hk_ => t_36), by omega⟩
            · omega
            · exact t_3
          · skip
            refine runsL_nil ?_;refine runs_cond false (ev_mk rfl) (fun h_ => nomatch h_) (fun _ => ?_);refine runs_skip ?_;refine runs_region ?_;refine rl0 (gn rfl) rfl rfl (step_mv rfl rfl) trivial ?_;refine rl0 (gn rfl) rfl rfl (step_add rfl (ev_mk rfl) (ev_mk rfl) (w64 (by omega))) trivial ?_;refine rl0 (gn rfl) rfl rfl (step_as rfl rfl) trivial ?_;refine runsL_nil ?_;have hq0_ : (nB (G (crcF (~~~ 0#32) (b.take j)) (at' b (j : Int)).toNat m >>> 1)) = (nB (G (crcF (~~~ 0#32) (b.take j)) (at' b (j : Int)).toNat (m + 1))) := t_101;refine ⟨_, _, ?_, sle ?_ (Nat.le_refl _), (m + 1), _, _, rfl, rfl, by omega, (fun k_ hk_ => t_36), by omega⟩
            · omega
            · exact t_3
        · skip
          refine runsL_nil ?_;refine runs_cond false (ev_mk rfl) (fun h_ => nomatch h_) (fun _ => ?_);refine runs_exit ?_;refine runs_region ?_;refine rl0 (gn rfl) rfl rfl (step_mv rfl rfl) trivial ?_;refine rl0 (gn rfl) rfl rfl (step_add rfl (ev_mk rfl) (ev_mk rfl) (w64 (by omega))) trivial ?_;refine rl0 (gn rfl) rfl rfl (step_as rfl rfl) trivial ?_;refine runsL_nil ?_;have hq0_ : (nB (G (crcF (~~~ 0#32) (b.take j)) (at' b (j : Int)).toNat m)) = nB (crcF (~~~ 0#32) (b.take (j + 1))) := by rw [crcF_take (by omega), show m = 8 by omega]
          refine ⟨_, _, ?_, sle ?_ (Nat.le_refl _), (j + 1), _, _, rfl, rfl, by omega, (fun k_ hk_ => t_51), by omega⟩
          · omega
          · exact t_3
    · skip
      refine runsL_nil ?_;refine runs_cond false (ev_mk rfl) (fun h_ => nomatch h_) (fun _ => ?_);refine runs_exit ?_;refine runs_seq ?_;refine runs_region ?_;refine rl0 (gn rfl) rfl rfl (step_mv rfl rfl) trivial ?_;refine rl0 (gn rfl) rfl rfl (step_sub rfl (ev_mk rfl) (ev_mk rfl) (wu32 (by have h_ := n_lt (crcF (~~~ 0#32) (b.take j)); omega))) trivial ?_;refine rl0 (gn rfl) rfl rfl (step_as rfl rfl) trivial ?_;refine runsL_nil ?_;refine runs_ret ?_;obtain rfl : j = b.length := by omega
      refine ⟨t_17, fin_mkg (rest rfl res0) ?_ ?_ ?_ ?_ ?_⟩
      · (repeat' (first | exact VLe.refl _ | exact VLe.own_sl _ _ _ | exact VLe.fl_sl _ _ | exact VLe.nil_sl _ | exact VLe.nil_fl _ | exact VLes.refl _ | exact .nil | refine VLe.tup ?_ | refine VLe.agg ?_ | refine .cons ?_ ?_ | (rw [Int.natCast_add]; exact VLe.refl _) | exact vle_int (by omega) | exact vle_bool t_159 | ((rw [List.take_length]; exact VLe.refl _)) | ((refine vle_int ?_; rw [n_not', List.take_length]; rfl)) | fail))
      · exact t_1
      · exact t_147
      · exact t_45
      · exact t_1
set_option maxRecDepth 100000 in
set_option maxHeartbeats 4000000 in
theorem rsput_c (b : List Int) (hb : Byts b) (hl : b.length ≤ 500000000) : Does Try.prog 37 [.sl 1 (bytesV b)] [] [] (.sl 1 (bytesV (sealB b))) := by
  refine does_mkg 40 Try.func37 rfl rfl rfl (fun n B bx hd hpre hup hvs hbx hgx => ?_);refine runs_seq ?_;refine runs_region ?_;refine rl0 (gn rfl) rfl rfl (step_as rfl rfl) trivial ?_;refine runsL_nil ?_;refine runs_seq ?_;refine runs_region ?_;refine rl0 (gn rfl) rfl rfl (step_mv rfl rfl) trivial ?_;refine rl0 (gn rfl) rfl rfl (step_callc rfl Try.func50 rfl rfl rfl (rsum_c b hb (by omega)) t_10) trivial ?_;refine rl0 (gn rfl) rfl rfl (step_as rfl rfl) trivial ?_;refine runsL_nil ?_;refine runs_seq ?_;refine runs_region ?_;refine rl0 (gn rfl) rfl rfl (step_as rfl rfl) trivial ?_;refine runsL_nil ?_;refine runs_seq ?_;refine runs_region ?_;refine rl0 (gn rfl) rfl rfl (step_mv rfl rfl) trivial ?_;refine rl0 (gn rfl) rfl rfl (step_mv rfl rfl) trivial ?_;refine' rl1 (gn rfl) rfl rfl (step_append_new (k := n + 0) (xs := []) rfl rfl rfl Try.underlying22 ⟨_, Try.underlying22, fun k_ => t_49⟩ F.el5 (ev_mk rfl) (.inr ⟨rfl, rfl⟩) (ev_mk rfl) (gives_sl (.inl rfl)) ?hg) ⟨?hb, trivial⟩ (by omega) ?_
  case hb => exact t_0
  case hg => exact t_153
  refine rl0 (gn rfl) rfl rfl (step_as rfl rfl) trivial ?_;refine runsL_nil ?_;refine runs_seq ?_;refine runs_region ?_;refine rl0 (gn rfl) rfl rfl (step_mv rfl rfl) trivial ?_;refine rl0 (gn rfl) rfl rfl (step_mv rfl rfl) trivial ?_;refine rl0 (gn rfl) rfl rfl (step_convw (r := nB (crcV b) % 256) rfl rfl Try.underlying34 Try.underlying5 (by rw [wrap_u8])) trivial ?_;refine rl0 (gn rfl) rfl rfl (step_mv rfl rfl) trivial ?_;refine rl0 (gn rfl) rfl rfl (step_shr (r := nB (crcV b) / 256) rfl (ev_mk rfl) (ev_mk rfl) (by omega) (shr8 _)) trivial ?_;refine rl0 (gn rfl) rfl rfl (step_convw (r := nB (crcV b) / 256 % 256) rfl rfl Try.underlying34 Try.underlying5 (by rw [wrap_u8])) trivial ?_;refine rl0 (gn rfl) rfl rfl (step_mv rfl rfl) trivial ?_;refine rl0 (gn rfl) rfl rfl (step_shr (r := nB (crcV b) / 65536) rfl (ev_mk rfl) (ev_mk rfl) (by omega) (shr16 _)) trivial ?_;refine rl0 (gn rfl) rfl rfl (step_convw (r := nB (crcV b) / 65536 % 256) rfl rfl Try.underlying34 Try.underlying5 (by rw [wrap_u8])) trivial ?_;refine rl0 (gn rfl) rfl rfl (step_mv rfl rfl) trivial ?_;refine rl0 (gn rfl) rfl rfl (step_shr (r := nB (crcV b) / 16777216) rfl (ev_mk rfl) (ev_mk rfl) (by omega) (shr24 _)) trivial ?_;refine rl0 (gn rfl) rfl rfl (step_convw (r := nB (crcV b) / 16777216 % 256) rfl rfl Try.underlying34 Try.underlying5 (by rw [wrap_u8])) trivial ?_;refine rl0 (gn rfl) rfl rfl (step_lit rfl Try.underlying22 F.sz5 F.zero5 t_33 t_139 (by decide) rfl rfl t_21 rfl) trivial ?_;refine' rl1 (gn rfl) rfl rfl (step_append_own rfl rfl rfl Try.underlying22 ⟨_, Try.underlying22, fun k_ => t_49⟩ F.el5 (ev_mk rfl) (ev_mk rfl) (gives_sl (.inr (.inl rfl))) ?hg) ⟨?hb, trivial⟩ (by omega) ?_
  case hb => exact t_0
  case hg => exact t_153
  refine rl0 (gn rfl) rfl rfl (step_as rfl rfl) trivial ?_;refine runsL_nil ?_;refine runs_ret ?_;refine ⟨t_17, fin_mkg (rest rfl res0) ?_ ?_ ?_ ?_ ?_⟩
  · exact t_83
  · exact t_1
  · exact t_142
  · exact t_45
  · exact t_1
end Go.Proofs.Ytdmkhpnjjpeeaaa
