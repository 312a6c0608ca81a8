/- Walks by the logic of values. -/
import Derived.Test.YtgfmjipdegkemaaKpVmQ
import Derived.Test.YtgfmjipdegkemaaKpWe
import Derived.Test.YtgfmjipdegkemaaKpVa
import Derived.Test.YtgfmjipdegkemaaKpWa
import Derived.Test.YtgfmjipdegkemaaKpWb
import Derived.Test.YtgfmjipdegkemaaKpWc
import Derived.Test.YtgfmjipdegkemaaKpWd
import Derived.Test.YtgfmjipdegkemaaKpWe
import Derived.Test.YtgfmjipdegkemaaKpVmT
import Derived.Test.YtgfmjipdegkemaaKpVmP
namespace Go.Proofs.Ytgfmjipdegkemaa
open Go.Vm
set_option linter.unusedVariables false
set_option linter.unusedSimpArgs false
open Crc
theorem rl_growgf {P : Program} {B : Bas} {N n : Nat} {Q : Exit → S → Prop} {ops : Array Oper} {lo : List Oper} {l : List (Nat × V)} {bx : Nat → Box} {d e k : Nat} (hd : lk l d = some (.fl e [])) (hk : bx k = .dead) (hn : k < n) (hr : RunsL P B N ops lo ⟨mk ((d, .gsl k 0 0 0 e) :: l), n, upd bx k (.gcells 0 e [])⟩ Q) : RunsL P B N ops lo ⟨mk l, n, bx⟩ Q := by
  intro X a hs
  obtain ⟨t1, t2⟩ := g_bare (v' := 0) (e := e) hs.rr (.inl (by rw [hs.bx]; exact hk)) hn
  refine hr { X with bx := upd X.bx k (.gcells 0 e []) } a ⟨t1, by show upd X.bx k _ = upd bx k _; rw [show X.bx = bx from hs.bx], fun i => ?_, hs.N, hs.defers, hs.ext.trans t2⟩
  by_cases hi : i = d
  · subst hi
    have h1 := hs.t i
    simp only at h1
    rw [lk_mk hd] at h1
    simp only [mk, upd_eq]
    simp only [VRep] at h1 ⊢
    obtain ⟨a, h2, _⟩ := h1
    exact ⟨a, 0, 0, e, [], h2, Nat.le_refl _, upd_eq _ _ _, Nat.le_refl _, fun _ => .inl rfl⟩
  · simp only [mk, upd_ne _ _ _ _ hi]
    exact VRep.mono t2 _ _ (hs.t i)
theorem g_at {b : List Int} {i : Nat} (h : i < b.length) : (bytesV b)[i]? = some [bV (at' b (i : Int))] := by
  unfold bytesV; rw [List.getElem?_map, List.getElem?_eq_getElem h, at_nat _ _ h]; rfl
theorem g_at2 {b c : List Int} {m i : Nat} (hm : m ≤ c.length) (hbc : b = c.take m) (h : i < m) : (bytesV c)[i]? = some [bV (at' b (i : Int))] := by
  rw [g_at (by omega)]; subst hbc
  rw [at_nat _ _ (by omega), at_nat _ _ (by rw [List.length_take]; omega), List.getElem_take]
theorem g_at3 {b : List Int} {i : Nat} {x : Int} (h : i < b.length) (hx : x = i) : (bytesV b)[i]? = some [bV (at' b x)] := by subst hx; exact g_at h
set_option maxRecDepth 100000 in
set_option maxHeartbeats 4000000 in
theorem go_g (v : BitVec 32) (b : List Int) (hb : Byts b) (hl : b.length ≤ 1000000000) (c : List Int) (m : Nat) (hm : m ≤ c.length) (hbc : b = c.take m) (kk vv : Nat) : Does Try.prog 41 [.sc (.int .u32 (nB v)), .gsl kk vv 0 m 1] [(kk, .gcells vv 1 (bytesV c))] [] (.sc (.int .u32 (nB (~~~ (crcF (~~~ v) b))))) := by
  refine does_mkg 40 Try.func41 rfl rfl rfl (fun n B bx hd hpre hup hvs hbx hgx => ?_)
  have hp0 := hpre.1
  have hk0 := lt_gcells hd hp0
  have hbm : b.length = m := by rw [hbc, List.length_take]; omega
  refine runs_seq ?_
  refine runs_region ?_
  refine rl0 (gn rfl) rfl rfl (step_as rfl rfl) trivial ?_
  refine runsL_nil ?_
  refine runs_seq ?_
  refine runs_region ?_
  refine rl0 (gn rfl) rfl rfl (step_callc rfl Try.func42 rfl rfl rfl (table_c) (by repeat (first | exact .nil | refine .cons ?_ ?_ | exact VLe.refl _ | exact VLe.own_sl _ _ _ | exact VLe.fl_sl _ _ | exact VLe.nil_sl _ | exact VLe.nil_fl _ | refine VLe.agg ?_))) trivial ?_
  refine rl1 (gn rfl) rfl rfl (step_allocc (k := n + 0) (zs := [.int .u32 0, .int .u32 0, .int .u32 0, .int .u32 0, .int .u32 0, .int .u32 0, .int .u32 0, .int .u32 0, .int .u32 0, .int .u32 0, .int .u32 0, .int .u32 0, .int .u32 0, .int .u32 0, .int .u32 0, .int .u32 0]) (cs := [.sc (.int .u32 0), .sc (.int .u32 0), .sc (.int .u32 0), .sc (.int .u32 0), .sc (.int .u32 0), .sc (.int .u32 0), .sc (.int .u32 0), .sc (.int .u32 0), .sc (.int .u32 0), .sc (.int .u32 0), .sc (.int .u32 0), .sc (.int .u32 0), .sc (.int .u32 0), .sc (.int .u32 0), .sc (.int .u32 0), .sc (.int .u32 0)]) rfl F.zero75 (by first | rfl | simp) (by first | rfl | decide | simp) (by first | rfl | simp)) ⟨by repeat (first | exact uE | refine uN (by omega) ?_ | assumption | exact hd _ (by omega) | fail), trivial⟩ (by omega) ?_
  refine' rls (gn rfl) rfl (step_storeA rfl rfl rfl rfl F.agg75 ?hm ?hl) ⟨?hb, trivial⟩ ?hk ?_
  case hb => repeat (first | exact uE | refine uN (by omega) ?_ | assumption | exact hd _ (by omega) | fail)
  case hm => first | rfl | (simp; done) | (first | (simp; done) | exact tabC_len _ | (rw [tabC_len]; omega) | (rw [bytesV_len]; omega))
  case hl => first | rfl | (simp; done) | (first | (simp; done) | exact tabC_len _ | (rw [tabC_len]; omega) | (rw [bytesV_len]; omega))
  case hk => omega
  refine runsL_nil ?_
  refine runs_seq ?_
  refine runs_region ?_
  refine rl0 (gn rfl) rfl rfl (step_mv rfl rfl) trivial ?_
  refine rl0 (gn rfl) rfl rfl (step_com (r := nB (~~~ v)) rfl (ev_mk rfl) (n_not v)) trivial ?_
  refine rl0 (gn rfl) rfl rfl (step_as rfl rfl) trivial ?_
  refine runsL_nil ?_
  refine runs_seq ?_
  refine runs_seq ?_
  refine runs_region ?_
  refine rl0 (gn rfl) rfl rfl (step_mv rfl rfl) trivial ?_
  refine rl0 (gn rfl) rfl rfl (step_len_g rfl rfl (ev_mk rfl) Try.underlying32) trivial ?_
  refine rl0 (gn rfl) rfl rfl (step_mv rfl rfl) trivial ?_
  refine runsL_nil ?_
  refine runs_block ?_
  have hs0_ : nB (~~~ v) = nB (crcF (~~~ v) (b.take 0)) := by rfl
  refine runs_loop (fun (ri_ : Nat) (st_ : Go.Vm.S) => ∃ (j : Nat) (m0 : Nat) (b0 : Nat → Box), (st_ = ⟨mk [(4, .sc (.int .u32 0)), (5, .ref (n + 0) 0), (6, .sc (.int .u32 (nB (crcF (~~~ v) (b.take j))))), (12, .gsl kk vv 0 m 1), (13, .sc (.int .i64 m)), (14, .sc (.int .i64 j))], m0, b0⟩) ∧ (ri_ = b.length - j) ∧ (n + 1 ≤ m0) ∧ (∀ k_, k_ < n → b0 k_ = bx k_) ∧ (b0 kk = .gcells vv 1 (bytesV c)) ∧ (b0 (n + 0) = .cells (tabC 16)) ∧ (j ≤ b.length)) (b.length - 0) ⟨_, sle ?_ (Nat.le_refl _), 0, _, _, rfl, rfl, ?_⟩ ?_
  · (repeat' (first | exact trivial | refine ⟨⟨_, rfl, ?_⟩, ?_⟩ | fail)); all_goals (repeat' (first | exact VLe.refl _ | exact VLe.own_sl _ _ _ | exact VLe.fl_sl _ _ | exact VLe.nil_sl _ | exact VLe.nil_fl _ | exact VLes.refl _ | exact .nil | refine VLe.tup ?_ | refine VLe.agg ?_ | refine .cons ?_ ?_ | (rw [Int.natCast_add]; exact VLe.refl _) | exact vle_int (by omega) | exact vle_bool (by first | rfl | assumption | (simp_all; done)) | (rw [← hs0_]; exact VLe.refl _) | (rw [hs0_]; exact VLe.refl _) | fail))
  · exact ⟨by omega, (fun k_ hk_ => by repeat (first | exact rfl | refine uN (by omega) ?_ | assumption | fail)), by first | ((repeat (first | exact uE | assumption | refine uN (by omega) ?_ | fail)); done) | exact tl_eq (by repeat (first | exact uE | assumption | refine uN (by omega) ?_ | fail)) (by first | rfl | (simp [bytesV, beB_len]; done) | (simp [bytesV, beB_len]; omega) | omega) | (rw [← hs0_]; (repeat (first | exact uE | assumption | refine uN (by omega) ?_ | fail)); done), by first | ((repeat (first | exact uE | assumption | refine uN (by omega) ?_ | fail)); done) | exact tl_eq (by repeat (first | exact uE | assumption | refine uN (by omega) ?_ | fail)) (by first | rfl | (simp [bytesV, beB_len]; done) | (simp [bytesV, beB_len]; omega) | omega) | (rw [← hs0_]; (repeat (first | exact uE | assumption | refine uN (by omega) ?_ | fail)); done), by omega⟩
  · rintro _ _ ⟨j, m0, b0, rfl, rfl, hm0, hf0, hB0_0, hB0_1, hF0_0⟩
    refine runs_know (fun hd0 => ?_)
    refine runs_bump 20 ?_
    simp only at hd0
    refine runs_seq ?_
    refine runs_region ?_
    refine rl_lss (gn rfl) rfl rfl rfl rfl rfl (fun h1 => ?_) (fun h1 => ?_)
    · skip
      have hc9 : (at' b (j : Int)).toNat < 256 := by have h_ := at_any hb (j : Int); omega
      have hl1 := and15_lt (crcF (~~~ v) (b.take j) ^^^ BitVec.ofNat 32 (at' b (j : Int)).toNat)
      have hl2 := and15_lt ((it 4 (crcF (~~~ v) (b.take j) ^^^ BitVec.ofNat 32 ((at' b (j : Int)).toNat % 16))) ^^^ BitVec.ofNat 32 ((at' b (j : Int)).toNat / 16))
      refine runsL_nil ?_
      refine runs_seq ?_
      refine runs_cond true (ev_mk rfl) (fun _ => ?_) (fun h_ => nomatch h_)
      refine runs_skip ?_
      refine runs_seq ?_
      refine runs_block ?_
      refine runs_seq ?_
      refine runs_region ?_
      refine' rl0 (gn rfl) rfl rfl (step_index_g rfl (ev_mk rfl) (ev_mk rfl) Try.underlying32 F.sz5 (by omega) (by omega) ?hl) ⟨?hb, trivial⟩ ?_
      case hb => repeat (first | exact uE | refine uN (by omega) ?_ | assumption | exact hd _ (by omega) | exact hd0 _ (by omega) | fail)
      case hl => first | omega | (first | (simp; done) | exact tabC_len _ | (rw [tabC_len]; omega) | (rw [bytesV_len]; omega))
      refine' rl0 (gn rfl) rfl rfl (step_load_g1 (i := j) (c := 0) (r := [bV (at' b (j : Int))]) rfl (ev_mk rfl) F.one5 ?hi ?hc ?hq) ⟨?hb, trivial⟩ ?_
      case hb => repeat (first | exact uE | refine uN (by omega) ?_ | assumption | exact hd _ (by omega) | exact hd0 _ (by omega) | fail)
      case hi => exact g_at2 hm hbc (by omega)
      case hc => first | rfl | (first | (simp; done) | exact tabC_len _ | (rw [tabC_len]; omega) | (rw [bytesV_len]; omega))
      case hq => first | rfl | omega
      refine rl0 (gn rfl) rfl rfl (step_as rfl rfl) trivial ?_
      refine runsL_nil ?_
      refine runs_seq ?_
      refine runs_region ?_
      refine rl0 (gn rfl) rfl rfl (step_mv rfl rfl) trivial ?_
      refine rl0 (gn rfl) rfl rfl (step_mv rfl rfl) trivial ?_
      refine rl0 (gn rfl) rfl rfl (step_convw (r := nB (BitVec.ofNat 32 (at' b (j : Int)).toNat)) rfl rfl Try.underlying5 Try.underlying23 (by rw [← c_of hb]; exact wu32 (by have h_ := at_any hb (j : Int); omega))) trivial ?_
      refine rl0 (gn rfl) rfl rfl (step_bits (r := nB (crcF (~~~ v) (b.take j) ^^^ BitVec.ofNat 32 (at' b (j : Int)).toNat)) rfl (ev_mk rfl) (ev_mk rfl) (.inr (.inr (.inl rfl))) (n_xor _ _)) trivial ?_
      refine rl0 (gn rfl) rfl rfl (step_bits (r := nB ((crcF (~~~ v) (b.take j) ^^^ BitVec.ofNat 32 (at' b (j : Int)).toNat) &&& 15#32)) rfl (ev_mk rfl) (ev_mk rfl) (.inl rfl) (n_and15 _)) trivial ?_
      refine rl0 (gn rfl) rfl rfl (step_index_arr rfl (ev_mk rfl) (ev_mk rfl) Try.underlying75 F.sz23 (by omega) (by omega)) trivial ?_
      refine' rl0 (gn rfl) rfl rfl (step_load_one (v := .sc (.int .u32 (nB (it 4 ((crcF (~~~ v) (b.take j) ^^^ BitVec.ofNat 32 (at' b (j : Int)).toNat) &&& 15#32))))) rfl (ev_mk rfl) F.one23 ?hv) ⟨?hb, trivial⟩ ?_
      case hb => repeat (first | exact uE | refine uN (by omega) ?_ | assumption | exact hd _ (by omega) | exact hd0 _ (by omega) | fail)
      case hv => exact tabC_at _
      refine rl0 (gn rfl) rfl rfl (step_mv rfl rfl) trivial ?_
      refine rl0 (gn rfl) rfl rfl (step_shr (r := nB (crcF (~~~ v) (b.take j) >>> 4)) rfl (ev_mk rfl) (ev_mk rfl) (by omega) (shr4 _)) trivial ?_
      refine rl0 (gn rfl) rfl rfl (step_bits (r := nB (it 4 (crcF (~~~ v) (b.take j) ^^^ BitVec.ofNat 32 ((at' b (j : Int)).toNat % 16)))) rfl (ev_mk rfl) (ev_mk rfl) (.inr (.inr (.inl rfl))) (by rw [n_xor, low_half _ _ hc9])) trivial ?_
      refine rl0 (gn rfl) rfl rfl (step_as rfl rfl) trivial ?_
      refine runsL_nil ?_
      refine runs_region ?_
      refine rl0 (gn rfl) rfl rfl (step_mv rfl rfl) trivial ?_
      refine rl0 (gn rfl) rfl rfl (step_mv rfl rfl) trivial ?_
      refine rl0 (gn rfl) rfl rfl (step_shr (r := nB (BitVec.ofNat 32 ((at' b (j : Int)).toNat / 16))) rfl (ev_mk rfl) (ev_mk rfl) (by omega) (c_hi hb _)) trivial ?_
      refine rl0 (gn rfl) rfl rfl (step_convw (r := nB (BitVec.ofNat 32 ((at' b (j : Int)).toNat / 16))) rfl rfl Try.underlying5 Try.underlying23 (by rw [n_ofNat _ (by omega)]; exact wu32 (by omega))) trivial ?_
      refine rl0 (gn rfl) rfl rfl (step_bits (r := nB ((it 4 (crcF (~~~ v) (b.take j) ^^^ BitVec.ofNat 32 ((at' b (j : Int)).toNat % 16))) ^^^ BitVec.ofNat 32 ((at' b (j : Int)).toNat / 16))) rfl (ev_mk rfl) (ev_mk rfl) (.inr (.inr (.inl rfl))) (n_xor _ _)) trivial ?_
      refine rl0 (gn rfl) rfl rfl (step_bits (r := nB (((it 4 (crcF (~~~ v) (b.take j) ^^^ BitVec.ofNat 32 ((at' b (j : Int)).toNat % 16))) ^^^ BitVec.ofNat 32 ((at' b (j : Int)).toNat / 16)) &&& 15#32)) rfl (ev_mk rfl) (ev_mk rfl) (.inl rfl) (n_and15 _)) trivial ?_
      refine rl0 (gn rfl) rfl rfl (step_index_arr rfl (ev_mk rfl) (ev_mk rfl) Try.underlying75 F.sz23 (by omega) (by omega)) trivial ?_
      refine' rl0 (gn rfl) rfl rfl (step_load_one (v := .sc (.int .u32 (nB (it 4 (((it 4 (crcF (~~~ v) (b.take j) ^^^ BitVec.ofNat 32 ((at' b (j : Int)).toNat % 16))) ^^^ BitVec.ofNat 32 ((at' b (j : Int)).toNat / 16)) &&& 15#32))))) rfl (ev_mk rfl) F.one23 ?hv) ⟨?hb, trivial⟩ ?_
      case hb => repeat (first | exact uE | refine uN (by omega) ?_ | assumption | exact hd _ (by omega) | exact hd0 _ (by omega) | fail)
      case hv => exact tabC_at _
      refine rl0 (gn rfl) rfl rfl (step_mv rfl rfl) trivial ?_
      refine rl0 (gn rfl) rfl rfl (step_shr (r := nB ((it 4 (crcF (~~~ v) (b.take j) ^^^ BitVec.ofNat 32 ((at' b (j : Int)).toNat % 16))) >>> 4)) rfl (ev_mk rfl) (ev_mk rfl) (by omega) (shr4 _)) trivial ?_
      refine rl0 (gn rfl) rfl rfl (step_bits (r := nB (G (crcF (~~~ v) (b.take j)) (at' b (j : Int)).toNat 8)) rfl (ev_mk rfl) (ev_mk rfl) (.inr (.inr (.inl rfl))) (by rw [n_xor, high_half _ _ hc9])) trivial ?_
      refine rl0 (gn rfl) rfl rfl (step_as rfl rfl) trivial ?_
      refine runsL_nil ?_
      refine runs_region ?_
      refine rl0 (gn rfl) rfl rfl (step_add rfl (ev_mk rfl) (ev_mk rfl) (w64 (by omega))) trivial ?_
      refine rl0 (gn rfl) rfl rfl (step_mv rfl rfl) trivial ?_
      refine runsL_nil ?_
      have hq0_ : nB (G (crcF (~~~ v) (b.take j)) (at' b (j : Int)).toNat 8) = nB (crcF (~~~ v) (b.take (j + 1))) := by rw [crcF_take (by omega)]
      refine ⟨_, _, ?_, sle ?_ (Nat.le_refl _), (j + 1), _, _, rfl, rfl, by omega, (fun k_ hk_ => by repeat (first | exact hf0 k_ hk_ | refine uN (by first | assumption | omega) ?_ | fail)), by first | ((repeat (first | exact uE | assumption | refine uN (by omega) ?_ | fail)); done) | exact tl_eq (by repeat (first | exact uE | assumption | refine uN (by omega) ?_ | fail)) (by first | rfl | (simp [bytesV, beB_len]; done) | (simp [bytesV, beB_len]; omega) | omega) | (rw [← hq0_]; (repeat (first | exact uE | assumption | refine uN (by omega) ?_ | fail)); done), by first | ((repeat (first | exact uE | assumption | refine uN (by omega) ?_ | fail)); done) | exact tl_eq (by repeat (first | exact uE | assumption | refine uN (by omega) ?_ | fail)) (by first | rfl | (simp [bytesV, beB_len]; done) | (simp [bytesV, beB_len]; omega) | omega) | (rw [← hq0_]; (repeat (first | exact uE | assumption | refine uN (by omega) ?_ | fail)); done), by omega⟩
      · omega
      · (repeat' (first | exact trivial | refine ⟨⟨_, rfl, ?_⟩, ?_⟩ | fail)); all_goals (repeat' (first | exact VLe.refl _ | exact VLe.own_sl _ _ _ | exact VLe.fl_sl _ _ | exact VLe.nil_sl _ | exact VLe.nil_fl _ | exact VLes.refl _ | exact .nil | refine VLe.tup ?_ | refine VLe.agg ?_ | refine .cons ?_ ?_ | (rw [Int.natCast_add]; exact VLe.refl _) | exact vle_int (by omega) | exact vle_bool (by first | rfl | assumption | (simp_all; done)) | (rw [← hq0_]; exact VLe.refl _) | (rw [hq0_]; exact VLe.refl _) | fail))
    · skip
      refine runsL_nil ?_
      refine runs_seq ?_
      refine runs_cond false (ev_mk rfl) (fun h_ => nomatch h_) (fun _ => ?_)
      refine runs_exit ?_
      refine runs_seq ?_
      refine runs_region ?_
      refine rl0 (gn rfl) rfl rfl (step_mv rfl rfl) trivial ?_
      refine rl0 (gn rfl) rfl rfl (step_com (r := nB (~~~ (crcF (~~~ v) (b.take j)))) rfl (ev_mk rfl) (n_not _)) trivial ?_
      refine rl0 (gn rfl) rfl rfl (step_as rfl rfl) trivial ?_
      refine runsL_nil ?_
      refine runs_ret ?_
      obtain rfl : j = b.length := by omega
      refine ⟨by first | exact .inr rfl | exact .inl rfl, fin_mkg (rest rfl res0) ?_ ?_ ?_ ?_ ?_⟩
      · (repeat' (first | exact VLe.refl _ | exact VLe.own_sl _ _ _ | exact VLe.fl_sl _ _ | exact VLe.nil_sl _ | exact VLe.nil_fl _ | exact VLes.refl _ | exact .nil | refine VLe.tup ?_ | refine VLe.agg ?_ | refine .cons ?_ ?_ | (rw [Int.natCast_add]; exact VLe.refl _) | exact vle_int (by omega) | exact vle_bool (by first | rfl | assumption | (simp_all; done)) | ((rw [List.take_length]; exact VLe.refl _)) | fail))
      · repeat (first | exact trivial | assumption | omega | (refine bdR_map (fun _ => ?_)) | (refine bdL_map (fun _ => ?_)) | refine ⟨?_, ?_⟩ | fail)
      · intro k_ hk_; exact ble (by repeat (first | exact rfl | refine uN (by omega) ?_ | assumption | exact hf0 _ (by omega) | fail))
      · intro p hp; cases hp
      · repeat (first | exact trivial | assumption | omega | (refine bdR_map (fun _ => ?_)) | (refine bdL_map (fun _ => ?_)) | refine ⟨?_, ?_⟩ | fail)
set_option maxRecDepth 100000 in
set_option maxHeartbeats 4000000 in
theorem sum_g (b : List Int) (hb : Byts b) (hl : b.length ≤ 1000000000) (c : List Int) (m : Nat) (hm : m ≤ c.length) (hbc : b = c.take m) (kk vv : Nat) : Does Try.prog 37 [.gsl kk vv 0 m 1] [(kk, .gcells vv 1 (bytesV c))] [] (.sc (.int .u32 (nB (crcV b)))) := by
  refine does_mkg 40 Try.func37 rfl rfl rfl (fun n B bx hd hpre hup hvs hbx hgx => ?_)
  have hp0 := hpre.1
  have hk0 := lt_gcells hd hp0
  refine runs_seq ?_
  refine runs_region ?_
  refine rl0 (gn rfl) rfl rfl (step_as rfl rfl) trivial ?_
  refine runsL_nil ?_
  refine runs_seq ?_
  refine runs_region ?_
  refine rl0 (gn rfl) rfl rfl (step_mv rfl rfl) trivial ?_
  refine rl0 (gn rfl) rfl rfl (step_callc rfl Try.func41 rfl rfl rfl (go_g 0#32 b hb hl c m hm hbc kk vv) (by repeat (first | exact .nil | refine .cons ?_ ?_ | exact VLe.refl _ | exact VLe.own_sl _ _ _ | exact VLe.fl_sl _ _ | exact VLe.nil_sl _ | exact VLe.nil_fl _ | refine VLe.agg ?_))) ⟨by repeat (first | exact uE | refine uN (by omega) ?_ | assumption | exact hd _ (by omega) | fail), trivial⟩ ?_
  refine rl0 (gn rfl) rfl rfl (step_as rfl rfl) trivial ?_
  refine runsL_nil ?_
  refine runs_ret ?_
  refine ⟨by first | exact .inr rfl | exact .inl rfl, fin_mkg (rest rfl res0) ?_ ?_ ?_ ?_ ?_⟩
  · (repeat' (first | exact VLe.refl _ | exact VLe.own_sl _ _ _ | exact VLe.fl_sl _ _ | exact VLe.nil_sl _ | exact VLe.nil_fl _ | exact VLes.refl _ | exact .nil | refine VLe.tup ?_ | refine VLe.agg ?_ | refine .cons ?_ ?_ | (rw [Int.natCast_add]; exact VLe.refl _) | exact vle_int (by omega) | exact vle_bool (by first | rfl | assumption | (simp_all; done)) | fail))
  · repeat (first | exact trivial | assumption | omega | (refine bdR_map (fun _ => ?_)) | (refine bdL_map (fun _ => ?_)) | refine ⟨?_, ?_⟩ | fail)
  · intro k_ hk_; exact ble (by repeat (first | exact rfl | refine uN (by omega) ?_ | assumption | fail))
  · intro p hp; cases hp
  · repeat (first | exact trivial | assumption | omega | (refine bdR_map (fun _ => ?_)) | (refine bdL_map (fun _ => ?_)) | refine ⟨?_, ?_⟩ | fail)
set_option maxRecDepth 100000 in
set_option maxHeartbeats 4000000 in
theorem sget_g (b : List Int) (hb : Byts b) (hl : b.length ≤ 500000000) (kk vv : Nat) : Does Try.prog 27 [.gsl kk vv 0 b.length 1] [(kk, .gcells vv 1 (bytesV b))] [] (.tup [.sl 1 (bytesV (sealG b)), .sc (.bool (sealOK b))]) := by
  refine does_mkg 40 Try.func27 rfl rfl rfl (fun n B bx hd hpre hup hvs hbx hgx => ?_)
  have hp0 := hpre.1
  have hk0 := lt_gcells hd hp0
  refine runs_seq ?_
  refine runs_region ?_
  refine rl0 (gn rfl) rfl rfl (step_as rfl rfl) trivial ?_
  refine rl0 (gn rfl) rfl rfl (step_as rfl rfl) trivial ?_
  refine runsL_nil ?_
  refine runs_seq ?_
  refine runs_region ?_
  refine rl0 (gn rfl) rfl rfl (step_mv rfl rfl) trivial ?_
  refine rl0 (gn rfl) rfl rfl (step_len_g rfl rfl (ev_mk rfl) Try.underlying32) trivial ?_
  refine rl0 (gn rfl) rfl rfl (step_sub rfl (ev_mk rfl) (ev_mk rfl) (w64 (by omega))) trivial ?_
  refine rl0 (gn rfl) rfl rfl (step_as rfl rfl) trivial ?_
  refine runsL_nil ?_
  refine runs_seq ?_
  refine runs_seq ?_
  refine runs_region ?_
  refine rl0 (gn rfl) rfl rfl (step_mv rfl rfl) trivial ?_
  refine rl_lss (gn rfl) rfl rfl rfl rfl rfl (fun h1 => ?_) (fun h1 => ?_)
  · skip
    refine runsL_nil ?_
    refine runs_cond true (ev_mk rfl) (fun _ => ?_) (fun h_ => nomatch h_)
    refine runs_seq ?_
    refine runs_region ?_
    refine rl0 (gn rfl) rfl rfl (step_as rfl rfl) trivial ?_
    refine rl0 (gn rfl) rfl rfl (step_as rfl rfl) trivial ?_
    refine runsL_nil ?_
    refine runs_ret ?_
    have hok : sealOK b = false := by (refine decide_eq_false ?_; rintro ⟨h4, h5⟩; rw [drop4 h4] at h5; simp only [q4, List.cons.injEq, and_true] at h5; omega)
    have hg : sealG b = [] := if_neg (by rw [hok]; simp)
    rw [hok, hg]
    refine ⟨by first | exact .inr rfl | exact .inl rfl, fin_mkg (rest rfl (rest rfl res0)) ?_ ?_ ?_ ?_ ?_⟩
    · (repeat' (first | exact VLe.refl _ | exact VLe.own_sl _ _ _ | exact VLe.fl_sl _ _ | exact VLe.nil_sl _ | exact VLe.nil_fl _ | exact VLes.refl _ | exact .nil | refine VLe.tup ?_ | refine VLe.agg ?_ | refine .cons ?_ ?_ | (rw [Int.natCast_add]; exact VLe.refl _) | exact vle_int (by omega) | exact vle_bool (by first | rfl | assumption | (simp_all; done)) | fail))
    · repeat (first | exact trivial | assumption | omega | (refine bdR_map (fun _ => ?_)) | (refine bdL_map (fun _ => ?_)) | refine ⟨?_, ?_⟩ | fail)
    · intro k_ hk_; exact ble (by repeat (first | exact rfl | refine uN (by omega) ?_ | assumption | fail))
    · intro p hp; cases hp
    · repeat (first | exact trivial | assumption | omega | (refine bdR_map (fun _ => ?_)) | (refine bdL_map (fun _ => ?_)) | refine ⟨?_, ?_⟩ | fail)
  · skip
    refine runsL_nil ?_
    refine runs_cond false (ev_mk rfl) (fun h_ => nomatch h_) (fun _ => ?_)
    refine runs_skip ?_
    refine runs_seq ?_
    refine runs_seq ?_
    refine runs_region ?_
    refine rl0 (gn rfl) rfl rfl (step_mv rfl rfl) trivial ?_
    refine rl0 (gn rfl) rfl rfl (step_mv rfl rfl) trivial ?_
    refine rl0 (gn rfl) rfl rfl (step_slice_g (l := 0) (h := (b.length - 4)) (q' := 0) (n' := (b.length - 4)) rfl (ev_mk rfl) Try.underlying32 F.sz5 bndLo_none (bndHi_nat (a := (b.length - 4)) rfl (by first | omega | (split <;> omega) | ((rw [bytesV_len]; omega)))) (by omega) (by omega) (by first | rfl | omega) (by first | rfl | omega)) trivial ?_
    refine rl0 (gn rfl) rfl rfl (step_callc rfl Try.func37 rfl rfl rfl (sum_g (b.take (b.length - 4)) (bytes_take hb _) (by simp; omega) b (b.length - 4) (by omega) rfl kk vv) (by repeat (first | exact .nil | refine .cons ?_ ?_ | exact VLe.refl _ | exact VLe.own_sl _ _ _ | exact VLe.fl_sl _ _ | exact VLe.nil_sl _ | exact VLe.nil_fl _ | refine VLe.agg ?_))) ⟨by repeat (first | exact uE | refine uN (by omega) ?_ | assumption | exact hd _ (by omega) | fail), trivial⟩ ?_
    refine rl0 (gn rfl) rfl rfl (step_as rfl rfl) trivial ?_
    refine runsL_nil ?_
    refine runs_seq ?_
    refine runs_region ?_
    refine rl0 (gn rfl) rfl rfl (step_mv rfl rfl) trivial ?_
    refine rl0 (gn rfl) rfl rfl (step_mv rfl rfl) trivial ?_
    refine' rl0 (gn rfl) rfl rfl (step_index_g rfl (ev_mk rfl) (ev_mk rfl) Try.underlying32 F.sz5 (by omega) (by omega) ?hl) ⟨?hb, trivial⟩ ?_
    case hb => repeat (first | exact uE | refine uN (by omega) ?_ | assumption | exact hd _ (by omega) | fail)
    case hl => first | omega | ((rw [bytesV_len]; omega))
    refine' rl0 (gn rfl) rfl rfl (step_load_g1 (i := (b.length - 4 + 0)) (c := 0) (r := [bV (at' b ((b.length : Int) - 4))]) rfl (ev_mk rfl) F.one5 ?hi ?hc ?hq) ⟨?hb, trivial⟩ ?_
    case hb => repeat (first | exact uE | refine uN (by omega) ?_ | assumption | exact hd _ (by omega) | fail)
    case hi => exact g_at3 (by omega) (by omega)
    case hc => first | rfl | ((rw [bytesV_len]; omega))
    case hq => first | rfl | omega
    refine rl0 (gn rfl) rfl rfl (step_mv rfl rfl) trivial ?_
    refine rl0 (gn rfl) rfl rfl (step_convw (r := nB (crcV (b.take (b.length - 4))) % 256) rfl rfl Try.underlying23 Try.underlying5 (by rw [wrap_u8])) trivial ?_
    refine rl_neq (gn rfl) rfl rfl rfl rfl rfl (fun h2 => ?_) (fun h2 => ?_)
    · skip
      refine rl0 (gn rfl) rfl rfl (step_mv rfl rfl) trivial ?_
      refine rlk rfl rfl rfl rfl rfl (ngb rfl rfl) rfl rfl ?_
      refine rlk rfl rfl rfl rfl rfl (ngb rfl rfl) rfl rfl ?_
      refine rlk rfl rfl rfl rfl rfl (ngb rfl rfl) rfl rfl ?_
      refine rlk rfl rfl rfl rfl rfl (ngb rfl rfl) rfl rfl ?_
      refine rlk rfl rfl rfl rfl rfl (ngb rfl rfl) rfl rfl ?_
      refine rlk rfl rfl rfl rfl rfl (ngb rfl rfl) rfl rfl ?_
      refine rlk rfl rfl rfl rfl rfl (ngb rfl rfl) rfl rfl ?_
      refine rlk rfl rfl rfl rfl rfl (ngb rfl rfl) rfl rfl ?_
      refine rlk rfl rfl rfl rfl rfl (ngb rfl rfl) rfl rfl ?_
      refine rl0 (gn rfl) rfl rfl (step_pick rfl (ev_mk rfl) (ev_mk rfl)) trivial ?_
      refine rl0 (gn rfl) rfl rfl (step_mv rfl rfl) trivial ?_
      refine rlk rfl rfl rfl rfl rfl (ngb rfl rfl) rfl rfl ?_
      refine rlk rfl rfl rfl rfl rfl (ngb rfl rfl) rfl rfl ?_
      refine rlk rfl rfl rfl rfl rfl (ngb rfl rfl) rfl rfl ?_
      refine rlk rfl rfl rfl rfl rfl (ngb rfl rfl) rfl rfl ?_
      refine rlk rfl rfl rfl rfl rfl (ngb rfl rfl) rfl rfl ?_
      refine rlk rfl rfl rfl rfl rfl (ngb rfl rfl) rfl rfl ?_
      refine rlk rfl rfl rfl rfl rfl (ngb rfl rfl) rfl rfl ?_
      refine rlk rfl rfl rfl rfl rfl (ngb rfl rfl) rfl rfl ?_
      refine rlk rfl rfl rfl rfl rfl (ngb rfl rfl) rfl rfl ?_
      refine rl0 (gn rfl) rfl rfl (step_pick rfl (ev_mk rfl) (ev_mk rfl)) trivial ?_
      refine rl0 (gn rfl) rfl rfl (step_mv rfl rfl) trivial ?_
      refine rlk rfl rfl rfl rfl rfl (ngb rfl rfl) rfl rfl ?_
      refine rlk rfl rfl rfl rfl rfl (ngb rfl rfl) rfl rfl ?_
      refine rlk rfl rfl rfl rfl rfl (ngb rfl rfl) rfl rfl ?_
      refine rlk rfl rfl rfl rfl rfl (ngb rfl rfl) rfl rfl ?_
      refine rlk rfl rfl rfl rfl rfl (ngb rfl rfl) rfl rfl ?_
      refine rlk rfl rfl rfl rfl rfl (ngb rfl rfl) rfl rfl ?_
      refine rlk rfl rfl rfl rfl rfl (ngb rfl rfl) rfl rfl ?_
      refine rlk rfl rfl rfl rfl rfl (ngb rfl rfl) rfl rfl ?_
      refine rlk rfl rfl rfl rfl rfl (ngb rfl rfl) rfl rfl ?_
      refine rl0 (gn rfl) rfl rfl (step_pick rfl (ev_mk rfl) (ev_mk rfl)) trivial ?_
      refine runsL_nil ?_
      refine runs_cond true (ev_mk rfl) (fun _ => ?_) (fun h_ => nomatch h_)
      refine runs_seq ?_
      refine runs_region ?_
      refine rl0 (gn rfl) rfl rfl (step_as rfl rfl) trivial ?_
      refine rl0 (gn rfl) rfl rfl (step_as rfl rfl) trivial ?_
      refine runsL_nil ?_
      refine runs_ret ?_
      have hok : sealOK b = false := by (refine decide_eq_false ?_; rintro ⟨h4, h5⟩; rw [drop4 h4] at h5; simp only [q4, List.cons.injEq, and_true] at h5; omega)
      have hg : sealG b = [] := if_neg (by rw [hok]; simp)
      rw [hok, hg]
      refine ⟨by first | exact .inr rfl | exact .inl rfl, fin_mkg (rest rfl (rest rfl res0)) ?_ ?_ ?_ ?_ ?_⟩
      · (repeat' (first | exact VLe.refl _ | exact VLe.own_sl _ _ _ | exact VLe.fl_sl _ _ | exact VLe.nil_sl _ | exact VLe.nil_fl _ | exact VLes.refl _ | exact .nil | refine VLe.tup ?_ | refine VLe.agg ?_ | refine .cons ?_ ?_ | (rw [Int.natCast_add]; exact VLe.refl _) | exact vle_int (by omega) | exact vle_bool (by first | rfl | assumption | (simp_all; done)) | fail))
      · repeat (first | exact trivial | assumption | omega | (refine bdR_map (fun _ => ?_)) | (refine bdL_map (fun _ => ?_)) | refine ⟨?_, ?_⟩ | fail)
      · intro k_ hk_; exact ble (by repeat (first | exact rfl | refine uN (by omega) ?_ | assumption | fail))
      · intro p hp; cases hp
      · repeat (first | exact trivial | assumption | omega | (refine bdR_map (fun _ => ?_)) | (refine bdL_map (fun _ => ?_)) | refine ⟨?_, ?_⟩ | fail)
    · skip
      refine rl0 (gn rfl) rfl rfl (step_mv rfl rfl) trivial ?_
      refine rl0 (gy rfl rfl rfl rfl rfl rfl) rfl rfl (step_mv rfl rfl) trivial ?_
      refine rl0 (gy rfl rfl rfl rfl rfl rfl) rfl rfl (step_mv rfl rfl) trivial ?_
      refine rl0 (gy rfl rfl rfl rfl rfl rfl) rfl rfl (step_add rfl (ev_mk rfl) (ev_mk rfl) (w64 (by omega))) trivial ?_
      refine' rl0 (gy rfl rfl rfl rfl rfl rfl) rfl rfl (step_index_g rfl (ev_mk rfl) (ev_mk rfl) Try.underlying32 F.sz5 (by omega) (by omega) ?hl) ⟨?hb, trivial⟩ ?_
      case hb => repeat (first | exact uE | refine uN (by omega) ?_ | assumption | exact hd _ (by omega) | fail)
      case hl => first | omega | ((rw [bytesV_len]; omega))
      refine' rl0 (gy rfl rfl rfl rfl rfl rfl) rfl rfl (step_load_g1 (i := (b.length - 4 + 1)) (c := 0) (r := [bV (at' b ((b.length : Int) - 4 + 1))]) rfl (ev_mk rfl) F.one5 ?hi ?hc ?hq) ⟨?hb, trivial⟩ ?_
      case hb => repeat (first | exact uE | refine uN (by omega) ?_ | assumption | exact hd _ (by omega) | fail)
      case hi => exact g_at3 (by omega) (by omega)
      case hc => first | rfl | ((rw [bytesV_len]; omega))
      case hq => first | rfl | omega
      refine rl0 (gy rfl rfl rfl rfl rfl rfl) rfl rfl (step_mv rfl rfl) trivial ?_
      refine rl0 (gy rfl rfl rfl rfl rfl rfl) rfl rfl (step_shr (r := nB (crcV (b.take (b.length - 4))) / 256) rfl (ev_mk rfl) (ev_mk rfl) (by omega) (shr8 _)) trivial ?_
      refine rl0 (gy rfl rfl rfl rfl rfl rfl) rfl rfl (step_convw (r := nB (crcV (b.take (b.length - 4))) / 256 % 256) rfl rfl Try.underlying23 Try.underlying5 (by rw [wrap_u8])) trivial ?_
      refine rl_neq (gy rfl rfl rfl rfl rfl rfl) rfl rfl rfl rfl rfl (fun h3 => ?_) (fun h3 => ?_)
      · skip
        refine rl0 (gn rfl) rfl rfl (step_pick rfl (ev_mk rfl) (ev_mk rfl)) trivial ?_
        refine rl0 (gn rfl) rfl rfl (step_mv rfl rfl) trivial ?_
        refine rlk rfl rfl rfl rfl rfl (ngb rfl rfl) rfl rfl ?_
        refine rlk rfl rfl rfl rfl rfl (ngb rfl rfl) rfl rfl ?_
        refine rlk rfl rfl rfl rfl rfl (ngb rfl rfl) rfl rfl ?_
        refine rlk rfl rfl rfl rfl rfl (ngb rfl rfl) rfl rfl ?_
        refine rlk rfl rfl rfl rfl rfl (ngb rfl rfl) rfl rfl ?_
        refine rlk rfl rfl rfl rfl rfl (ngb rfl rfl) rfl rfl ?_
        refine rlk rfl rfl rfl rfl rfl (ngb rfl rfl) rfl rfl ?_
        refine rlk rfl rfl rfl rfl rfl (ngb rfl rfl) rfl rfl ?_
        refine rlk rfl rfl rfl rfl rfl (ngb rfl rfl) rfl rfl ?_
        refine rl0 (gn rfl) rfl rfl (step_pick rfl (ev_mk rfl) (ev_mk rfl)) trivial ?_
        refine rl0 (gn rfl) rfl rfl (step_mv rfl rfl) trivial ?_
        refine rlk rfl rfl rfl rfl rfl (ngb rfl rfl) rfl rfl ?_
        refine rlk rfl rfl rfl rfl rfl (ngb rfl rfl) rfl rfl ?_
        refine rlk rfl rfl rfl rfl rfl (ngb rfl rfl) rfl rfl ?_
        refine rlk rfl rfl rfl rfl rfl (ngb rfl rfl) rfl rfl ?_
        refine rlk rfl rfl rfl rfl rfl (ngb rfl rfl) rfl rfl ?_
        refine rlk rfl rfl rfl rfl rfl (ngb rfl rfl) rfl rfl ?_
        refine rlk rfl rfl rfl rfl rfl (ngb rfl rfl) rfl rfl ?_
        refine rlk rfl rfl rfl rfl rfl (ngb rfl rfl) rfl rfl ?_
        refine rlk rfl rfl rfl rfl rfl (ngb rfl rfl) rfl rfl ?_
        refine rl0 (gn rfl) rfl rfl (step_pick rfl (ev_mk rfl) (ev_mk rfl)) trivial ?_
        refine runsL_nil ?_
        refine runs_cond true (ev_mk rfl) (fun _ => ?_) (fun h_ => nomatch h_)
        refine runs_seq ?_
        refine runs_region ?_
        refine rl0 (gn rfl) rfl rfl (step_as rfl rfl) trivial ?_
        refine rl0 (gn rfl) rfl rfl (step_as rfl rfl) trivial ?_
        refine runsL_nil ?_
        refine runs_ret ?_
        have hok : sealOK b = false := by (refine decide_eq_false ?_; rintro ⟨h4, h5⟩; rw [drop4 h4] at h5; simp only [q4, List.cons.injEq, and_true] at h5; omega)
        have hg : sealG b = [] := if_neg (by rw [hok]; simp)
        rw [hok, hg]
        refine ⟨by first | exact .inr rfl | exact .inl rfl, fin_mkg (rest rfl (rest rfl res0)) ?_ ?_ ?_ ?_ ?_⟩
        · (repeat' (first | exact VLe.refl _ | exact VLe.own_sl _ _ _ | exact VLe.fl_sl _ _ | exact VLe.nil_sl _ | exact VLe.nil_fl _ | exact VLes.refl _ | exact .nil | refine VLe.tup ?_ | refine VLe.agg ?_ | refine .cons ?_ ?_ | (rw [Int.natCast_add]; exact VLe.refl _) | exact vle_int (by omega) | exact vle_bool (by first | rfl | assumption | (simp_all; done)) | fail))
        · repeat (first | exact trivial | assumption | omega | (refine bdR_map (fun _ => ?_)) | (refine bdL_map (fun _ => ?_)) | refine ⟨?_, ?_⟩ | fail)
        · intro k_ hk_; exact ble (by repeat (first | exact rfl | refine uN (by omega) ?_ | assumption | fail))
        · intro p hp; cases hp
        · repeat (first | exact trivial | assumption | omega | (refine bdR_map (fun _ => ?_)) | (refine bdL_map (fun _ => ?_)) | refine ⟨?_, ?_⟩ | fail)
      · skip
        refine rl0 (gn rfl) rfl rfl (step_pick rfl (ev_mk rfl) (ev_mk rfl)) trivial ?_
        refine rl0 (gn rfl) rfl rfl (step_mv rfl rfl) trivial ?_
        refine rl0 (gy rfl rfl rfl rfl rfl rfl) rfl rfl (step_mv rfl rfl) trivial ?_
        refine rl0 (gy rfl rfl rfl rfl rfl rfl) rfl rfl (step_mv rfl rfl) trivial ?_
        refine rl0 (gy rfl rfl rfl rfl rfl rfl) rfl rfl (step_add rfl (ev_mk rfl) (ev_mk rfl) (w64 (by omega))) trivial ?_
        refine' rl0 (gy rfl rfl rfl rfl rfl rfl) rfl rfl (step_index_g rfl (ev_mk rfl) (ev_mk rfl) Try.underlying32 F.sz5 (by omega) (by omega) ?hl) ⟨?hb, trivial⟩ ?_
        case hb => repeat (first | exact uE | refine uN (by omega) ?_ | assumption | exact hd _ (by omega) | fail)
        case hl => first | omega | ((rw [bytesV_len]; omega))
        refine' rl0 (gy rfl rfl rfl rfl rfl rfl) rfl rfl (step_load_g1 (i := (b.length - 4 + 2)) (c := 0) (r := [bV (at' b ((b.length : Int) - 4 + 2))]) rfl (ev_mk rfl) F.one5 ?hi ?hc ?hq) ⟨?hb, trivial⟩ ?_
        case hb => repeat (first | exact uE | refine uN (by omega) ?_ | assumption | exact hd _ (by omega) | fail)
        case hi => exact g_at3 (by omega) (by omega)
        case hc => first | rfl | ((rw [bytesV_len]; omega))
        case hq => first | rfl | omega
        refine rl0 (gy rfl rfl rfl rfl rfl rfl) rfl rfl (step_mv rfl rfl) trivial ?_
        refine rl0 (gy rfl rfl rfl rfl rfl rfl) rfl rfl (step_shr (r := nB (crcV (b.take (b.length - 4))) / 65536) rfl (ev_mk rfl) (ev_mk rfl) (by omega) (shr16 _)) trivial ?_
        refine rl0 (gy rfl rfl rfl rfl rfl rfl) rfl rfl (step_convw (r := nB (crcV (b.take (b.length - 4))) / 65536 % 256) rfl rfl Try.underlying23 Try.underlying5 (by rw [wrap_u8])) trivial ?_
        refine rl_neq (gy rfl rfl rfl rfl rfl rfl) rfl rfl rfl rfl rfl (fun h4 => ?_) (fun h4 => ?_)
        · skip
          refine rl0 (gn rfl) rfl rfl (step_pick rfl (ev_mk rfl) (ev_mk rfl)) trivial ?_
          refine rl0 (gn rfl) rfl rfl (step_mv rfl rfl) trivial ?_
          refine rlk rfl rfl rfl rfl rfl (ngb rfl rfl) rfl rfl ?_
          refine rlk rfl rfl rfl rfl rfl (ngb rfl rfl) rfl rfl ?_
          refine rlk rfl rfl rfl rfl rfl (ngb rfl rfl) rfl rfl ?_
          refine rlk rfl rfl rfl rfl rfl (ngb rfl rfl) rfl rfl ?_
          refine rlk rfl rfl rfl rfl rfl (ngb rfl rfl) rfl rfl ?_
          refine rlk rfl rfl rfl rfl rfl (ngb rfl rfl) rfl rfl ?_
          refine rlk rfl rfl rfl rfl rfl (ngb rfl rfl) rfl rfl ?_
          refine rlk rfl rfl rfl rfl rfl (ngb rfl rfl) rfl rfl ?_
          refine rlk rfl rfl rfl rfl rfl (ngb rfl rfl) rfl rfl ?_
          refine rl0 (gn rfl) rfl rfl (step_pick rfl (ev_mk rfl) (ev_mk rfl)) trivial ?_
          refine runsL_nil ?_
          refine runs_cond true (ev_mk rfl) (fun _ => ?_) (fun h_ => nomatch h_)
          refine runs_seq ?_
          refine runs_region ?_
          refine rl0 (gn rfl) rfl rfl (step_as rfl rfl) trivial ?_
          refine rl0 (gn rfl) rfl rfl (step_as rfl rfl) trivial ?_
          refine runsL_nil ?_
          refine runs_ret ?_
          have hok : sealOK b = false := by (refine decide_eq_false ?_; rintro ⟨h4, h5⟩; rw [drop4 h4] at h5; simp only [q4, List.cons.injEq, and_true] at h5; omega)
          have hg : sealG b = [] := if_neg (by rw [hok]; simp)
          rw [hok, hg]
          refine ⟨by first | exact .inr rfl | exact .inl rfl, fin_mkg (rest rfl (rest rfl res0)) ?_ ?_ ?_ ?_ ?_⟩
          · (repeat' (first | exact VLe.refl _ | exact VLe.own_sl _ _ _ | exact VLe.fl_sl _ _ | exact VLe.nil_sl _ | exact VLe.nil_fl _ | exact VLes.refl _ | exact .nil | refine VLe.tup ?_ | refine VLe.agg ?_ | refine .cons ?_ ?_ | (rw [Int.natCast_add]; exact VLe.refl _) | exact vle_int (by omega) | exact vle_bool (by first | rfl | assumption | (simp_all; done)) | fail))
          · repeat (first | exact trivial | assumption | omega | (refine bdR_map (fun _ => ?_)) | (refine bdL_map (fun _ => ?_)) | refine ⟨?_, ?_⟩ | fail)
          · intro k_ hk_; exact ble (by repeat (first | exact rfl | refine uN (by omega) ?_ | assumption | fail))
          · intro p hp; cases hp
          · repeat (first | exact trivial | assumption | omega | (refine bdR_map (fun _ => ?_)) | (refine bdL_map (fun _ => ?_)) | refine ⟨?_, ?_⟩ | fail)
        · skip
          refine rl0 (gn rfl) rfl rfl (step_pick rfl (ev_mk rfl) (ev_mk rfl)) trivial ?_
          refine rl0 (gn rfl) rfl rfl (step_mv rfl rfl) trivial ?_
          refine rl0 (gy rfl rfl rfl rfl rfl rfl) rfl rfl (step_mv rfl rfl) trivial ?_
          refine rl0 (gy rfl rfl rfl rfl rfl rfl) rfl rfl (step_mv rfl rfl) trivial ?_
          refine rl0 (gy rfl rfl rfl rfl rfl rfl) rfl rfl (step_add rfl (ev_mk rfl) (ev_mk rfl) (w64 (by omega))) trivial ?_
          refine' rl0 (gy rfl rfl rfl rfl rfl rfl) rfl rfl (step_index_g rfl (ev_mk rfl) (ev_mk rfl) Try.underlying32 F.sz5 (by omega) (by omega) ?hl) ⟨?hb, trivial⟩ ?_
          case hb => repeat (first | exact uE | refine uN (by omega) ?_ | assumption | exact hd _ (by omega) | fail)
          case hl => first | omega | ((rw [bytesV_len]; omega))
          refine' rl0 (gy rfl rfl rfl rfl rfl rfl) rfl rfl (step_load_g1 (i := (b.length - 4 + 3)) (c := 0) (r := [bV (at' b ((b.length : Int) - 4 + 3))]) rfl (ev_mk rfl) F.one5 ?hi ?hc ?hq) ⟨?hb, trivial⟩ ?_
          case hb => repeat (first | exact uE | refine uN (by omega) ?_ | assumption | exact hd _ (by omega) | fail)
          case hi => exact g_at3 (by omega) (by omega)
          case hc => first | rfl | ((rw [bytesV_len]; omega))
          case hq => first | rfl | omega
          refine rl0 (gy rfl rfl rfl rfl rfl rfl) rfl rfl (step_mv rfl rfl) trivial ?_
          refine rl0 (gy rfl rfl rfl rfl rfl rfl) rfl rfl (step_shr (r := nB (crcV (b.take (b.length - 4))) / 16777216) rfl (ev_mk rfl) (ev_mk rfl) (by omega) (shr24 _)) trivial ?_
          refine rl0 (gy rfl rfl rfl rfl rfl rfl) rfl rfl (step_convw (r := nB (crcV (b.take (b.length - 4))) / 16777216 % 256) rfl rfl Try.underlying23 Try.underlying5 (by rw [wrap_u8])) trivial ?_
          refine rl_neq (gy rfl rfl rfl rfl rfl rfl) rfl rfl rfl rfl rfl (fun h5 => ?_) (fun h5 => ?_)
          · skip
            refine rl0 (gn rfl) rfl rfl (step_pick rfl (ev_mk rfl) (ev_mk rfl)) trivial ?_
            refine runsL_nil ?_
            refine runs_cond true (ev_mk rfl) (fun _ => ?_) (fun h_ => nomatch h_)
            refine runs_seq ?_
            refine runs_region ?_
            refine rl0 (gn rfl) rfl rfl (step_as rfl rfl) trivial ?_
            refine rl0 (gn rfl) rfl rfl (step_as rfl rfl) trivial ?_
            refine runsL_nil ?_
            refine runs_ret ?_
            have hok : sealOK b = false := by (refine decide_eq_false ?_; rintro ⟨h4, h5⟩; rw [drop4 h4] at h5; simp only [q4, List.cons.injEq, and_true] at h5; omega)
            have hg : sealG b = [] := if_neg (by rw [hok]; simp)
            rw [hok, hg]
            refine ⟨by first | exact .inr rfl | exact .inl rfl, fin_mkg (rest rfl (rest rfl res0)) ?_ ?_ ?_ ?_ ?_⟩
            · (repeat' (first | exact VLe.refl _ | exact VLe.own_sl _ _ _ | exact VLe.fl_sl _ _ | exact VLe.nil_sl _ | exact VLe.nil_fl _ | exact VLes.refl _ | exact .nil | refine VLe.tup ?_ | refine VLe.agg ?_ | refine .cons ?_ ?_ | (rw [Int.natCast_add]; exact VLe.refl _) | exact vle_int (by omega) | exact vle_bool (by first | rfl | assumption | (simp_all; done)) | fail))
            · repeat (first | exact trivial | assumption | omega | (refine bdR_map (fun _ => ?_)) | (refine bdL_map (fun _ => ?_)) | refine ⟨?_, ?_⟩ | fail)
            · intro k_ hk_; exact ble (by repeat (first | exact rfl | refine uN (by omega) ?_ | assumption | fail))
            · intro p hp; cases hp
            · repeat (first | exact trivial | assumption | omega | (refine bdR_map (fun _ => ?_)) | (refine bdL_map (fun _ => ?_)) | refine ⟨?_, ?_⟩ | fail)
          · skip
            refine rl0 (gn rfl) rfl rfl (step_pick rfl (ev_mk rfl) (ev_mk rfl)) trivial ?_
            refine runsL_nil ?_
            refine runs_cond false (ev_mk rfl) (fun h_ => nomatch h_) (fun _ => ?_)
            refine runs_skip ?_
            refine runs_seq ?_
            refine runs_region ?_
            refine rl0 (gn rfl) rfl rfl (step_lit rfl Try.underlying32 F.sz5 F.zero5 (by first | rfl | simp) (by first | rfl | simp | decide) (by decide) rfl rfl (by first | (simp [V.cs, V.stor, oneV]; done) | (simp [V.cs, V.stor, oneV])) rfl) trivial ?_
            refine rl0 (gn rfl) rfl rfl (step_mv rfl rfl) trivial ?_
            refine rl0 (gn rfl) rfl rfl (step_mv rfl rfl) trivial ?_
            refine rl0 (gn rfl) rfl rfl (step_slice_g (l := 0) (h := (b.length - 4)) (q' := 0) (n' := (b.length - 4)) rfl (ev_mk rfl) Try.underlying32 F.sz5 bndLo_none (bndHi_nat (a := (b.length - 4)) rfl (by first | omega | (split <;> omega) | ((rw [bytesV_len]; omega)))) (by omega) (by omega) (by first | rfl | omega) (by first | rfl | omega)) trivial ?_
            refine' rl1 (gn rfl) rfl rfl (step_append_new (k := n + 0) rfl rfl rfl Try.underlying32 ⟨_, Try.underlying32, fun k_ => by intro h_; cases h_⟩ F.el5 (ev_mk rfl) (.inl rfl) (ev_mk rfl) (gives_gsl (ys := bytesV (b.take (b.length - 4))) ?gl ?gy) ?hg) ⟨?hb, ?gb, trivial⟩ (by omega) ?_
            case hb => repeat (first | exact uE | refine uN (by omega) ?_ | assumption | exact hd _ (by omega) | fail)
            case gb => repeat (first | exact uE | refine uN (by omega) ?_ | assumption | exact hd _ (by omega) | fail)
            case gl => (rw [bytesV_len]; omega)
            case gy => (rw [List.drop_zero]; simp [bytesV])
            case hg => first | (simp [bytesV]; done) | (simp [bytesV]; omega)
            refine rl0 (gn rfl) rfl rfl (step_as rfl rfl) trivial ?_
            refine rl0 (gn rfl) rfl rfl (step_as rfl rfl) trivial ?_
            refine runsL_nil ?_
            refine runs_ret ?_
            have hok : sealOK b = true := decide_eq_true ⟨by omega, by rw [drop4 (by omega)]; simp only [q4, List.cons.injEq, and_true]; exact ⟨by omega, by omega, by omega, by omega⟩⟩
            have hg : sealG b = (b.take (b.length - 4)) := if_pos hok
            rw [hok, hg]
            refine ⟨by first | exact .inr rfl | exact .inl rfl, fin_mkg (rest rfl (rest rfl res0)) ?_ ?_ ?_ ?_ ?_⟩
            · (repeat' (first | exact VLe.refl _ | exact VLe.own_sl _ _ _ | exact VLe.fl_sl _ _ | exact VLe.nil_sl _ | exact VLe.nil_fl _ | exact VLes.refl _ | exact .nil | refine VLe.tup ?_ | refine VLe.agg ?_ | refine .cons ?_ ?_ | (rw [Int.natCast_add]; exact VLe.refl _) | exact vle_int (by omega) | exact vle_bool (by first | rfl | assumption | (simp_all; done)) | fail))
            · repeat (first | exact trivial | assumption | omega | (refine bdR_map (fun _ => ?_)) | (refine bdL_map (fun _ => ?_)) | refine ⟨?_, ?_⟩ | fail)
            · intro k_ hk_; exact ble (by repeat (first | exact rfl | refine uN (by omega) ?_ | assumption | fail))
            · intro p hp; cases hp
            · repeat (first | exact trivial | assumption | omega | (refine bdR_map (fun _ => ?_)) | (refine bdL_map (fun _ => ?_)) | refine ⟨?_, ?_⟩ | fail)
set_option maxRecDepth 100000 in
set_option maxHeartbeats 4000000 in
theorem sput_g (b : List Int) (hb : Byts b) (hl : b.length ≤ 500000000) (kk : Nat) : Does Try.prog 23 [.sl 1 (bytesV b)] [(kk, .dead)] [(kk, .gcells 2 1 (bytesV (sealB b)))] (.gsl kk 2 0 (sealB b).length 1) := by
  refine does_mkg 40 Try.func23 rfl rfl rfl (fun n B bx hd hpre hup hvs hbx hgx => ?_)
  have hp0 := hpre.1
  have hz0 := hp0
  have hu0 := hup.1
  refine runs_seq ?_
  refine runs_region ?_
  refine rl0 (gn rfl) rfl rfl (step_as rfl rfl) trivial ?_
  refine runsL_nil ?_
  refine runs_seq ?_
  refine runs_region ?_
  refine rl0 (gn rfl) rfl rfl (step_mv rfl rfl) trivial ?_
  refine rl0 (gn rfl) rfl rfl (step_callc rfl Try.func37 rfl rfl rfl (sum_c b hb (by omega)) (by repeat (first | exact .nil | refine .cons ?_ ?_ | exact VLe.refl _ | exact VLe.own_sl _ _ _ | exact VLe.fl_sl _ _ | exact VLe.nil_sl _ | exact VLe.nil_fl _ | refine VLe.agg ?_))) trivial ?_
  refine rl0 (gn rfl) rfl rfl (step_as rfl rfl) trivial ?_
  refine runsL_nil ?_
  refine runs_seq ?_
  refine runs_region ?_
  refine rl0 (gn rfl) rfl rfl (step_lit rfl Try.underlying32 F.sz5 F.zero5 (by first | rfl | simp) (by first | rfl | simp | decide) (by decide) rfl rfl (by first | (simp [V.cs, V.stor, oneV]; done) | (simp [V.cs, V.stor, oneV])) rfl) trivial ?_
  refine rl_growgf (d := 6) (k := kk) (e := 1) rfl (by repeat (first | exact uE | refine uN (by omega) ?_ | assumption | exact hd _ (by omega) | fail)) (by omega) ?_
  refine rl0 (gn rfl) rfl rfl (step_mv rfl rfl) trivial ?_
  refine' rl1 (gn rfl) rfl rfl (step_append_g (xs' := bytesV b) rfl rfl rfl Try.underlying32 ⟨_, Try.underlying32, fun k_ => by intro h_; cases h_⟩ F.el5 (ev_mk rfl) (ev_mk rfl) (gives_sl (.inl rfl)) ?hl ?hg ?hx) ⟨?hb, trivial⟩ (by omega) ?_
  case hb => repeat (first | exact uE | refine uN (by omega) ?_ | assumption | exact hd _ (by omega) | fail)
  case hl => first | omega | (simp; done) | ((rw [bytesV_len]; omega))
  case hg => first | (simp [bytesV]; done) | (simp [bytesV]; omega)
  case hx => simp
  refine rl0 (gn rfl) rfl rfl (step_mv rfl rfl) trivial ?_
  refine rl0 (gn rfl) rfl rfl (step_convw (r := nB (crcV b) % 256) rfl rfl Try.underlying23 Try.underlying5 (by rw [wrap_u8])) trivial ?_
  refine rl0 (gn rfl) rfl rfl (step_mv rfl rfl) trivial ?_
  refine rl0 (gn rfl) rfl rfl (step_shr (r := nB (crcV b) / 256) rfl (ev_mk rfl) (ev_mk rfl) (by omega) (shr8 _)) trivial ?_
  refine rl0 (gn rfl) rfl rfl (step_convw (r := nB (crcV b) / 256 % 256) rfl rfl Try.underlying23 Try.underlying5 (by rw [wrap_u8])) trivial ?_
  refine rl0 (gn rfl) rfl rfl (step_mv rfl rfl) trivial ?_
  refine rl0 (gn rfl) rfl rfl (step_shr (r := nB (crcV b) / 65536) rfl (ev_mk rfl) (ev_mk rfl) (by omega) (shr16 _)) trivial ?_
  refine rl0 (gn rfl) rfl rfl (step_convw (r := nB (crcV b) / 65536 % 256) rfl rfl Try.underlying23 Try.underlying5 (by rw [wrap_u8])) trivial ?_
  refine rl0 (gn rfl) rfl rfl (step_mv rfl rfl) trivial ?_
  refine rl0 (gn rfl) rfl rfl (step_shr (r := nB (crcV b) / 16777216) rfl (ev_mk rfl) (ev_mk rfl) (by omega) (shr24 _)) trivial ?_
  refine rl0 (gn rfl) rfl rfl (step_convw (r := nB (crcV b) / 16777216 % 256) rfl rfl Try.underlying23 Try.underlying5 (by rw [wrap_u8])) trivial ?_
  refine rl0 (gn rfl) rfl rfl (step_lit rfl Try.underlying32 F.sz5 F.zero5 (by first | rfl | simp) (by first | rfl | simp | decide) (by decide) rfl rfl (by first | (simp [V.cs, V.stor, oneV]; done) | (simp [V.cs, V.stor, oneV])) rfl) trivial ?_
  refine' rl1 (gn rfl) rfl rfl (step_append_g (xs' := bytesV (sealB b)) rfl rfl rfl Try.underlying32 ⟨_, Try.underlying32, fun k_ => by intro h_; cases h_⟩ F.el5 (ev_mk rfl) (ev_mk rfl) (gives_sl (.inr (.inl rfl))) ?hl ?hg ?hx) ⟨?hb, trivial⟩ (by omega) ?_
  case hb => repeat (first | exact uE | refine uN (by omega) ?_ | assumption | exact hd _ (by omega) | fail)
  case hl => first | omega | (simp; done) | ((rw [bytesV_len]; omega))
  case hg => first | (simp [bytesV]; done) | (simp [bytesV]; omega)
  case hx => (rw [List.take_of_length_le (by rw [bytesV_len]; omega)]; simp [sealB, q4, bytesV, bV, V.cs])
  refine rl0 (gn rfl) rfl rfl (step_as rfl rfl) trivial ?_
  refine runsL_nil ?_
  refine runs_ret ?_
  have hsl_ : 0 + (bytesV b).length + 4 = (sealB b).length := by rw [sealB_len, bytesV_len]; omega
  refine ⟨by first | exact .inr rfl | exact .inl rfl, fin_mkg (rest rfl res0) ?_ ?_ ?_ ?_ ?_⟩
  · (repeat' (first | exact VLe.refl _ | exact VLe.own_sl _ _ _ | exact VLe.fl_sl _ _ | exact VLe.nil_sl _ | exact VLe.nil_fl _ | exact VLes.refl _ | exact .nil | refine VLe.tup ?_ | refine VLe.agg ?_ | refine .cons ?_ ?_ | (rw [Int.natCast_add]; exact VLe.refl _) | exact vle_int (by omega) | exact vle_bool (by first | rfl | assumption | (simp_all; done)) | ((rw [← hsl_]; exact VLe.refl _)) | fail))
  · repeat (first | exact trivial | assumption | omega | (refine bdR_map (fun _ => ?_)) | (refine bdL_map (fun _ => ?_)) | refine ⟨?_, ?_⟩ | fail)
  · intro k_ hk_; simp only [upds]; by_cases e_ : k_ = kk; (focus subst e_; refine bl_eq ?_; first | (refine' blec ?hb ?hl; (case hb => repeat (first | exact uE | assumption | refine uN (by omega) ?_ | fail)); (case hl => first | exact VLes.refl _ | ((repeat' (first | exact VLe.refl _ | exact VLe.own_sl _ _ _ | exact VLe.fl_sl _ _ | exact VLe.nil_sl _ | exact VLe.nil_fl _ | exact VLes.refl _ | exact .nil | refine VLe.tup ?_ | refine VLe.agg ?_ | refine .cons ?_ ?_ | (rw [Int.natCast_add]; exact VLe.refl _) | exact vle_int (by omega) | exact vle_bool (by first | rfl | assumption | (simp_all; done)) | ((rw [← hsl_]; exact VLe.refl _)) | fail)); done))) | (refine ble ?_; (repeat (first | exact uE | assumption | refine uN (by omega) ?_ | fail)); done) | exact ble (tl_eq (by repeat (first | exact uE | assumption | refine uN (by omega) ?_ | fail)) (by first | rfl | (simp [bytesV, beB_len]; done) | (simp [bytesV, beB_len]; omega) | omega))); refine bl_ne e_ ?_; exact ble (by repeat (first | exact rfl | refine uN (by omega) ?_ | assumption | fail))
  · intro p hp cs hcs; simp only [List.mem_cons, List.not_mem_nil, or_false] at hp; (first | (rcases hp with rfl)) <;> (first | (cases hcs; done) | (cases hcs; repeat (first | exact trivial | assumption | omega | (refine bdR_map (fun _ => ?_)) | (refine bdL_map (fun _ => ?_)) | refine ⟨?_, ?_⟩ | fail)))
  · repeat (first | exact trivial | assumption | omega | (refine bdR_map (fun _ => ?_)) | (refine bdL_map (fun _ => ?_)) | refine ⟨?_, ?_⟩ | fail)
end Go.Proofs.Ytgfmjipdegkemaa
