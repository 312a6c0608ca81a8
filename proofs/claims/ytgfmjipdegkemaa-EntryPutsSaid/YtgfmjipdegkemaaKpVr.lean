/- Walks by the logic of values. -/
import Derived.Test.YtgfmjipdegkemaaKpVmQ
import Derived.Test.YtgfmjipdegkemaaKpWe
import Derived.Test.YtgfmjipdegkemaaKpVa
import Derived.Test.YtgfmjipdegkemaaKpVb
import Derived.Test.YtgfmjipdegkemaaKpVd
import Derived.Test.YtgfmjipdegkemaaKpVe
import Derived.Test.YtgfmjipdegkemaaKpVf
import Derived.Test.YtgfmjipdegkemaaKpVg
import Derived.Test.YtgfmjipdegkemaaKpVh
import Derived.Test.YtgfmjipdegkemaaKpVj
import Derived.Test.YtgfmjipdegkemaaKpVl
import Derived.Test.YtgfmjipdegkemaaKpVm
import Derived.Test.YtgfmjipdegkemaaKpVn
import Derived.Test.YtgfmjipdegkemaaKpVo
import Derived.Test.YtgfmjipdegkemaaKpVp
import Derived.Test.YtgfmjipdegkemaaKpVq
import Derived.Test.YtgfmjipdegkemaaKpWa
import Derived.Test.YtgfmjipdegkemaaKpWb
import Derived.Test.YtgfmjipdegkemaaKpWc
import Derived.Test.YtgfmjipdegkemaaKpWd
import Derived.Test.YtgfmjipdegkemaaKpWe
import Derived.Test.YtgfmjipdegkemaaKpVmT
import Derived.Test.YtgfmjipdegkemaaKpVmP
namespace Go.Proofs.Ytgfmjipdegkemaa
open Go.Vm
set_option linter.unusedVariables false
set_option linter.unusedSimpArgs false
open Crc
def pg0 : List Int := 1 :: 0 :: 2 :: List.replicate 221 0
def wV : ByteArray := ⟨#[118]⟩
def wE : En := ⟨7, 2, 3, 5, 0, ⟨1, 9, 2, 3, wV, false⟩, [⟨4, pg0⟩], [8]⟩
theorem wE_ok : okEn wE := by
  refine ⟨⟨by decide, by decide⟩, ⟨by decide, by decide⟩, ⟨by decide, by decide⟩, ⟨by decide, by decide⟩, ⟨⟨by decide, by decide⟩, ⟨by decide, by decide⟩, ⟨by decide, by decide⟩, ⟨by decide, by decide⟩⟩, fun m hm => ?_, fun a ha => ?_⟩
  · rw [List.mem_singleton.1 hm]
    refine ⟨rfl, fun x hx => ?_⟩
    have : ∀ x ∈ pg0, 0 ≤ x ∧ x < 256 := by decide +kernel
    exact this x hx
  · rw [List.mem_singleton.1 ha]; exact ⟨by decide, by decide⟩
theorem wE_chk : chkF wE = 0 := by decide +kernel
theorem wE_len : (sealB (bodyB wE)).length = 93 := by rw [sealB_len]; decide +kernel
theorem wE_b5 : at' (bodyB wE) 5 = 0 := by decide +kernel
theorem wE_n5 : at' (sealB (bodyB wE)) 5 = 0 := by
  unfold sealB
  rw [show (5 : Int) = ((5 : Nat) : Int) from rfl, at_app1 (by decide +kernel)]; exact wE_b5
theorem wE_bad : sealOK ((sealB (bodyB wE)).set 5 1) = false := by decide +kernel
theorem wE_byts : Byts (sealB (bodyB wE)) := sealB_byts (bodyB_byts wE_ok wE_chk)
theorem wE_byts2 : Byts ((sealB (bodyB wE)).set 5 1) := fun x hx => by
  rcases List.mem_or_eq_of_mem_set hx with h | rfl
  · exact wE_byts x h
  · decide
theorem wE_set : (bytesV (sealB (bodyB wE))).set 5 ([bV (at' (sealB (bodyB wE)) 5)].set 0 (bV 1)) = bytesV ((sealB (bodyB wE)).set 5 1) := by unfold bytesV; rw [List.map_set]; rfl
theorem wk_get (kk : Nat) : Does Try.prog 16 [.gsl kk 2 0 93 1] [(kk, .gcells 2 1 (bytesV (sealB (bodyB wE))))] [] (.tup [.agg (enC wE), .sc (.int .i64 0)]) := by
  obtain ⟨h1, h2⟩ := all_r wE_ok wE_chk
  have := get_g (sealB (bodyB wE)) wE_byts (by rw [wE_len]; omega) (sealOK_put _) (by rw [sealG_put]; exact h1) kk 2
  rw [sealG_put, h2, wE_len] at this
  exact this
theorem wk_bad (kk : Nat) : Does Try.prog 16 [.gsl kk 2 0 93 1] [(kk, .gcells 2 1 ((bytesV (sealB (bodyB wE))).set 5 ([bV (at' (sealB (bodyB wE)) 5)].set 0 (bV 1))))] [] (.tup [.agg (enC zEn), .sc (.int .i64 5)]) := by
  rw [wE_set]
  have := getb_g ((sealB (bodyB wE)).set 5 1) wE_byts2 (by rw [List.length_set, wE_len]; omega) wE_bad kk 2
  rw [List.length_set, wE_len] at this
  exact this
theorem wk_put (kk : Nat) : Does Try.prog 8 [.agg (enC wE)] [(kk, .dead)] [(kk, .gcells 2 1 (bytesV (sealB (bodyB wE))))] (.tup [.gsl kk 2 0 93 1, .sc (.int .i64 0)]) := by
  have := put_g wE wE_ok wE_chk kk
  rw [wE_len] at this
  exact this
theorem wk_rr (kk : Nat) : Does Try.prog 18 [.ref kk 0] [(kk, .cells (rdB (recF wE.r) false))] [(kk, .cells (rdB [] false))] (.tup [.agg (rcC wE.r), .sc (.bool true)]) := by
  obtain ⟨h1, h2, h3⟩ := rec_r (r := wE.r) wE_ok.2.2.2.2.1 (by decide) []
  rw [List.append_nil] at h1 h2 h3
  have hb : okS (recF wE.r, false) := ⟨recF_byts (by decide), by rw [recF_len (by decide)]; omega⟩
  have := rr_e kk (recF wE.r, false) ([], false) hb h1 h3.symm
  rw [h2] at this
  exact this
theorem zE_okp : okPg zEn := fun m hm => by cases hm
theorem wE_okp : okPg wE := fun m hm => (wE_ok.2.2.2.2.2.1 m hm).1
theorem zE_ok : okEn zEn := ⟨⟨by decide, by decide⟩, ⟨by decide, by decide⟩, ⟨by decide, by decide⟩, ⟨by decide, by decide⟩, ⟨⟨by decide, by decide⟩, ⟨by decide, by decide⟩, ⟨by decide, by decide⟩, ⟨by decide, by decide⟩⟩, (fun m hm => (by cases hm)), (fun m hm => (by cases hm))⟩
theorem wk_same : Does Try.prog 13 [.agg (enC wE), .agg (enC wE)] [] [] (.sc (.bool true)) := esame_c wE wE (by decide) (by decide) wE_okp wE_okp true ⟨fun _ => ⟨rfl, rfl, rfl, rfl, rfl, rfl, rfl, by decide +kernel⟩, fun _ => rfl⟩
theorem wk_rsame : Does Try.prog 14 [.agg (enC wE), .agg (enC wE)] [] [] (.sc (.bool true)) := rsame_c wE wE (by decide) (by decide) wE_okp wE_okp true ⟨fun _ => ⟨rfl, rfl, rfl, rfl, rfl, rfl, rfl, by decide +kernel⟩, fun _ => rfl⟩
theorem wk_diff : Does Try.prog 13 [.agg (enC wE), .agg (enC zEn)] [] [] (.sc (.bool false)) := esame_c wE zEn (by decide) (by decide) wE_okp zE_okp false ⟨fun h => (by cases h), fun h => (by have := h.2.2.1; exact absurd this (by decide))⟩
set_option maxRecDepth 100000 in
set_option maxHeartbeats 4000000 in
theorem works_c  : Does Try.prog 7 [] [] [] (.sc (.bool true)) := by
  refine does_mkg 40 Try.func7 rfl rfl rfl (fun n B bx hd hpre hup hvs hbx hgx => ?_)
  refine runs_seq ?_
  refine runs_region ?_
  refine rl0 (gn rfl) rfl rfl (step_as rfl rfl) trivial ?_
  refine runsL_nil ?_
  refine runs_seq ?_
  refine runs_region ?_
  refine rl0 (gn rfl) rfl rfl (step_build (ss := [1, 1, 1, 1, 1, 1]) (zs := [.int .u64 0, .int .u64 0, .int .u32 0, .int .u32 0, .string ByteArray.empty, .bool false]) rfl Try.underlying25 (by kernel_rfl) F.zero25 rfl rfl rfl) trivial ?_
  refine rl0 (gn rfl) rfl rfl (step_build_arr (zs := List.replicate 224 (.int .u8 0)) (cs := pg0.map bV) rfl Try.underlying49 F.sz5 F.zero49 rfl rfl (by kernel_rfl)) trivial ?_
  refine rl0 (gn rfl) rfl rfl (step_build (ss := [1, 224]) (zs := ((.int .i64 0) :: List.replicate 224 (.int .u8 0))) (cs := (imR ⟨4, pg0⟩)) rfl Try.underlying51 (by kernel_rfl) F.zero51 rfl rfl (by kernel_rfl)) trivial ?_
  refine rl0 (gn rfl) rfl rfl (step_lit rfl Try.underlying26 F.sz51 F.zero51 (by first | rfl | simp) (by first | rfl | simp | decide) (by decide) rfl rfl (by first | (simp [V.cs, V.stor, oneV]; done) | (simp [V.cs, V.stor, oneV, imR, bV]; first | done | decide +kernel)) rfl) trivial ?_
  refine rl0 (gn rfl) rfl rfl (step_lit rfl Try.underlying27 F.sz22 F.zero22 (by first | rfl | simp) (by first | rfl | simp | decide) (by decide) rfl rfl (by first | (simp [V.cs, V.stor, oneV]; done) | (simp [V.cs, V.stor, oneV, imR, bV]; first | done | decide +kernel)) rfl) trivial ?_
  refine rl0 (gn rfl) rfl rfl (step_build (ss := [1, 1, 1, 1, 1, 6, 1, 1]) (zs := [.int .u64 0, .int .i64 0, .int .u64 0, .int .u64 0, .int .u64 0, .int .u64 0, .int .u64 0, .int .u32 0, .int .u32 0, .string ByteArray.empty, .bool false, .slice none 0 0, .slice none 0 0]) rfl Try.underlying29 (by kernel_rfl) F.zero29 rfl rfl rfl) trivial ?_
  refine rl1 (gn rfl) rfl rfl (step_allocc (k := n + 0) (zs := [.int .u64 0, .int .i64 0, .int .u64 0, .int .u64 0, .int .u64 0, .int .u64 0, .int .u64 0, .int .u32 0, .int .u32 0, .string ByteArray.empty, .bool false, .slice none 0 0, .slice none 0 0]) (cs := [.sc (.int .u64 0), .sc (.int .i64 0), .sc (.int .u64 0), .sc (.int .u64 0), .sc (.int .u64 0), .sc (.int .u64 0), .sc (.int .u64 0), .sc (.int .u32 0), .sc (.int .u32 0), .sc (.string ByteArray.empty), .sc (.bool false), .sc (.slice none 0 0), .sc (.slice none 0 0)]) rfl F.zero29 (by first | rfl | simp) (by first | rfl | decide | simp) (by first | rfl | simp)) ⟨by repeat (first | exact uE | refine uN (by omega) ?_ | assumption | exact hd _ (by omega) | fail), trivial⟩ (by omega) ?_
  refine' rls (gn rfl) rfl (step_storeA rfl rfl rfl rfl F.agg29 ?hm ?hl) ⟨?hb, trivial⟩ ?hk ?_
  case hb => repeat (first | exact uE | refine uN (by omega) ?_ | assumption | exact hd _ (by omega) | fail)
  case hm => first | rfl | (simp; done) | (first | (rw [bytesV_len, wE_len]; omega) | (simp; done))
  case hl => first | rfl | (simp; done) | (first | (rw [bytesV_len, wE_len]; omega) | (simp; done))
  case hk => omega
  refine runsL_nil ?_
  refine runs_seq ?_
  refine runs_region ?_
  refine' rl0 (gn rfl) rfl rfl (step_load_all rfl rfl F.agg29 ?hl) ⟨?hb, trivial⟩ ?_
  case hb => repeat (first | exact uE | refine uN (by omega) ?_ | assumption | exact hd _ (by omega) | fail)
  case hl => first | rfl | (simp; done) | (first | (rw [bytesV_len, wE_len]; omega) | (simp; done))
  refine rl1 (gn rfl) rfl rfl (step_callc rfl Try.func8 rfl rfl rfl (wk_put (n + 1)) (by repeat (first | exact .nil | refine .cons ?_ ?_ | exact VLe.refl _ | exact VLe.own_sl _ _ _ | exact VLe.fl_sl _ _ | exact VLe.nil_sl _ | exact VLe.refl _ | (rw [bytesV_snoc]; exact VLe.own_sl _ _ _) | refine VLe.agg ?_))) ⟨by repeat (first | exact uE | refine uN (by omega) ?_ | assumption | exact hd _ (by omega) | fail), trivial⟩ (by omega) ?_
  refine rl0 (gn rfl) rfl rfl (step_mv rfl rfl) trivial ?_
  refine rl0 (gn rfl) rfl rfl (step_extract rfl (ev_mk rfl) rfl) trivial ?_
  refine rl0 (gn rfl) rfl rfl (step_extract rfl (ev_mk rfl) rfl) trivial ?_
  refine rl0 (gn rfl) rfl rfl (step_as rfl rfl) trivial ?_
  refine rl0 (gn rfl) rfl rfl (step_as rfl rfl) trivial ?_
  refine runsL_nil ?_
  refine runs_seq ?_
  refine runs_region ?_
  refine rl0 (gn rfl) rfl rfl (step_mv rfl rfl) trivial ?_
  refine rl0 (gn rfl) rfl rfl (step_callc rfl Try.func16 rfl rfl rfl (wk_get (n + 1)) (by repeat (first | exact .nil | refine .cons ?_ ?_ | exact VLe.refl _ | exact VLe.own_sl _ _ _ | exact VLe.fl_sl _ _ | exact VLe.nil_sl _ | exact VLe.refl _ | (rw [bytesV_snoc]; exact VLe.own_sl _ _ _) | refine VLe.agg ?_))) ⟨by repeat (first | exact uE | refine uN (by omega) ?_ | assumption | exact hd _ (by omega) | fail), trivial⟩ ?_
  refine rl0 (gn rfl) rfl rfl (step_mv rfl rfl) trivial ?_
  refine rl0 (gn rfl) rfl rfl (step_extract rfl (ev_mk rfl) rfl) trivial ?_
  refine rl0 (gn rfl) rfl rfl (step_extract rfl (ev_mk rfl) rfl) trivial ?_
  refine rl1 (gn rfl) rfl rfl (step_allocc (k := n + 2) (zs := [.int .u64 0, .int .i64 0, .int .u64 0, .int .u64 0, .int .u64 0, .int .u64 0, .int .u64 0, .int .u32 0, .int .u32 0, .string ByteArray.empty, .bool false, .slice none 0 0, .slice none 0 0]) (cs := [.sc (.int .u64 0), .sc (.int .i64 0), .sc (.int .u64 0), .sc (.int .u64 0), .sc (.int .u64 0), .sc (.int .u64 0), .sc (.int .u64 0), .sc (.int .u32 0), .sc (.int .u32 0), .sc (.string ByteArray.empty), .sc (.bool false), .sc (.slice none 0 0), .sc (.slice none 0 0)]) rfl F.zero29 (by first | rfl | simp) (by first | rfl | decide | simp) (by first | rfl | simp)) ⟨by repeat (first | exact uE | refine uN (by omega) ?_ | assumption | exact hd _ (by omega) | fail), trivial⟩ (by omega) ?_
  refine' rls (gn rfl) rfl (step_storeA rfl rfl rfl rfl F.agg29 ?hm ?hl) ⟨?hb, trivial⟩ ?hk ?_
  case hb => repeat (first | exact uE | refine uN (by omega) ?_ | assumption | exact hd _ (by omega) | fail)
  case hm => first | rfl | (simp; done) | (first | (rw [bytesV_len, wE_len]; omega) | (simp; done))
  case hl => first | rfl | (simp; done) | (first | (rw [bytesV_len, wE_len]; omega) | (simp; done))
  case hk => omega
  refine rl0 (gn rfl) rfl rfl (step_as rfl rfl) trivial ?_
  refine runsL_nil ?_
  refine runs_seq ?_
  refine runs_seq ?_
  refine runs_region ?_
  refine rl0 (gn rfl) rfl rfl (step_mv rfl rfl) trivial ?_
  refine rl0 (gn rfl) rfl rfl (step_len_g rfl rfl (ev_mk rfl) Try.underlying32) trivial ?_
  refine rl_lss (gn rfl) rfl rfl rfl rfl rfl (fun h1 => ?_) (fun h1 => ?_)
  · exact False.elim (by omega)
  refine runsL_nil ?_
  refine runs_cond false (ev_mk rfl) (fun h_ => nomatch h_) (fun _ => ?_)
  refine runs_skip ?_
  refine runs_seq ?_
  refine runs_region ?_
  refine rl0 (gn rfl) rfl rfl (step_mv rfl rfl) trivial ?_
  refine rl0 (gn rfl) rfl rfl (step_mv rfl rfl) trivial ?_
  refine' rl0 (gn rfl) rfl rfl (step_index_g rfl (ev_mk rfl) (ev_mk rfl) Try.underlying32 F.sz5 (by omega) (by omega) ?hl) ⟨?hb, trivial⟩ ?_
  case hb => repeat (first | exact uE | refine uN (by omega) ?_ | assumption | exact hd _ (by omega) | fail)
  case hl => first | omega | (first | (rw [bytesV_len, wE_len]; omega) | (simp; done))
  refine' rl0 (gn rfl) rfl rfl (step_load_g1 (i := 5) (c := 0) (r := [bV (at' (sealB (bodyB wE)) 5)]) rfl (ev_mk rfl) F.one5 ?hi ?hc ?hq) ⟨?hb, trivial⟩ ?_
  case hb => repeat (first | exact uE | refine uN (by omega) ?_ | assumption | exact hd _ (by omega) | fail)
  case hi => exact g_at (i := 5) (by rw [wE_len]; omega)
  case hc => first | rfl | (first | (rw [bytesV_len, wE_len]; omega) | (simp; done))
  case hq => first | rfl | omega
  refine rl0 (gn rfl) rfl rfl (step_bits (r := 1) rfl (ev_mk rfl) (ev_mk rfl) (.inr (.inr (.inl rfl))) (by rw [wE_n5]; decide)) trivial ?_
  refine' rl0 (gn rfl) rfl rfl (step_index_g rfl (ev_mk rfl) (ev_mk rfl) Try.underlying32 F.sz5 (by omega) (by omega) ?hl) ⟨?hb, trivial⟩ ?_
  case hb => repeat (first | exact uE | refine uN (by omega) ?_ | assumption | exact hd _ (by omega) | fail)
  case hl => first | omega | (first | (rw [bytesV_len, wE_len]; omega) | (simp; done))
  refine' rls (gn rfl) rfl (step_store_g1 (i := 5) (c := 0) (r := [bV (at' (sealB (bodyB wE)) 5)]) rfl (ev_mk rfl) (ev_mk rfl) F.one5 rfl rfl ?hi ?hr ?hc ?hq) ⟨?hb, trivial⟩ (by omega) ?_
  case hb => repeat (first | exact uE | refine uN (by omega) ?_ | assumption | exact hd _ (by omega) | fail)
  case hi => exact g_at (i := 5) (by rw [wE_len]; omega)
  case hr => rfl
  case hc => omega
  case hq => first | rfl | omega
  refine runsL_nil ?_
  refine runs_seq ?_
  refine runs_region ?_
  refine rl0 (gn rfl) rfl rfl (step_mv rfl rfl) trivial ?_
  refine rl0 (gn rfl) rfl rfl (step_callc rfl Try.func16 rfl rfl rfl (wk_bad (n + 1)) (by repeat (first | exact .nil | refine .cons ?_ ?_ | exact VLe.refl _ | exact VLe.own_sl _ _ _ | exact VLe.fl_sl _ _ | exact VLe.nil_sl _ | exact VLe.refl _ | (rw [bytesV_snoc]; exact VLe.own_sl _ _ _) | refine VLe.agg ?_))) ⟨by repeat (first | exact uE | refine uN (by omega) ?_ | assumption | exact hd _ (by omega) | fail), trivial⟩ ?_
  refine rl0 (gn rfl) rfl rfl (step_mv rfl rfl) trivial ?_
  refine rl0 (gn rfl) rfl rfl (step_extract rfl (ev_mk rfl) rfl) trivial ?_
  refine rl0 (gn rfl) rfl rfl (step_extract rfl (ev_mk rfl) rfl) trivial ?_
  refine rl1 (gn rfl) rfl rfl (step_allocc (k := n + 3) (zs := [.int .u64 0, .int .i64 0, .int .u64 0, .int .u64 0, .int .u64 0, .int .u64 0, .int .u64 0, .int .u32 0, .int .u32 0, .string ByteArray.empty, .bool false, .slice none 0 0, .slice none 0 0]) (cs := [.sc (.int .u64 0), .sc (.int .i64 0), .sc (.int .u64 0), .sc (.int .u64 0), .sc (.int .u64 0), .sc (.int .u64 0), .sc (.int .u64 0), .sc (.int .u32 0), .sc (.int .u32 0), .sc (.string ByteArray.empty), .sc (.bool false), .sc (.slice none 0 0), .sc (.slice none 0 0)]) rfl F.zero29 (by first | rfl | simp) (by first | rfl | decide | simp) (by first | rfl | simp)) ⟨by repeat (first | exact uE | refine uN (by omega) ?_ | assumption | exact hd _ (by omega) | fail), trivial⟩ (by omega) ?_
  refine' rls (gn rfl) rfl (step_storeA rfl rfl rfl rfl F.agg29 ?hm ?hl) ⟨?hb, trivial⟩ ?hk ?_
  case hb => repeat (first | exact uE | refine uN (by omega) ?_ | assumption | exact hd _ (by omega) | fail)
  case hm => first | rfl | (simp; done) | (first | (rw [bytesV_len, wE_len]; omega) | (simp; done))
  case hl => first | rfl | (simp; done) | (first | (rw [bytesV_len, wE_len]; omega) | (simp; done))
  case hk => omega
  refine rl0 (gn rfl) rfl rfl (step_as rfl rfl) trivial ?_
  refine runsL_nil ?_
  refine runs_seq ?_
  refine runs_region ?_
  refine rl0 (gn rfl) rfl rfl (step_fieldAddr (off := 5) rfl (ev_mk rfl) Try.underlying29 rfl F.sz25 rfl) trivial ?_
  refine' rl0 (gn rfl) rfl rfl (step_load_agg rfl (ev_mk rfl) F.agg25 ?hc ?hl) ⟨?hb, trivial⟩ ?_
  case hb => repeat (first | exact uE | refine uN (by omega) ?_ | assumption | exact hd _ (by omega) | fail)
  case hc => rfl
  case hl => first | rfl | (simp; done) | (first | (rw [bytesV_len, wE_len]; omega) | (simp; done))
  refine rl0 (gn rfl) rfl rfl (step_callc rfl Try.func17 rfl rfl rfl (rec_c wE.r wE_ok.2.2.2.2.1 (by decide)) (by repeat (first | exact .nil | refine .cons ?_ ?_ | exact VLe.refl _ | exact VLe.own_sl _ _ _ | exact VLe.fl_sl _ _ | exact VLe.nil_sl _ | exact VLe.refl _ | (rw [bytesV_snoc]; exact VLe.own_sl _ _ _) | refine VLe.agg ?_))) trivial ?_
  refine rl1 (gn rfl) rfl rfl (step_callc rfl Try.func19 rfl rfl rfl (read_c (recF wE.r) (n + 4) (by rw [recF_len (by decide)]; omega)) (by repeat (first | exact .nil | refine .cons ?_ ?_ | exact VLe.refl _ | exact VLe.own_sl _ _ _ | exact VLe.fl_sl _ _ | exact VLe.nil_sl _ | exact VLe.refl _ | (rw [bytesV_snoc]; exact VLe.own_sl _ _ _) | refine VLe.agg ?_))) ⟨by repeat (first | exact uE | refine uN (by omega) ?_ | assumption | exact hd _ (by omega) | fail), trivial⟩ (by omega) ?_
  refine rl1 (gn rfl) rfl rfl (step_callc rfl Try.func18 rfl rfl rfl (wk_rr _) (by repeat (first | exact .nil | refine .cons ?_ ?_ | exact VLe.refl _ | exact VLe.own_sl _ _ _ | exact VLe.fl_sl _ _ | exact VLe.nil_sl _ | exact VLe.refl _ | (rw [bytesV_snoc]; exact VLe.own_sl _ _ _) | refine VLe.agg ?_))) ⟨by repeat (first | exact uE | refine uN (by omega) ?_ | assumption | exact hd _ (by omega) | fail), trivial⟩ (by omega) ?_
  refine rl0 (gn rfl) rfl rfl (step_mv rfl rfl) trivial ?_
  refine rl0 (gn rfl) rfl rfl (step_extract rfl (ev_mk rfl) rfl) trivial ?_
  refine rl0 (gn rfl) rfl rfl (step_extract rfl (ev_mk rfl) rfl) trivial ?_
  refine rl1 (gn rfl) rfl rfl (step_allocc (k := n + 5) (zs := [.int .u64 0, .int .u64 0, .int .u32 0, .int .u32 0, .string ByteArray.empty, .bool false]) (cs := [.sc (.int .u64 0), .sc (.int .u64 0), .sc (.int .u32 0), .sc (.int .u32 0), .sc (.string ByteArray.empty), .sc (.bool false)]) rfl F.zero25 (by first | rfl | simp) (by first | rfl | decide | simp) (by first | rfl | simp)) ⟨by repeat (first | exact uE | refine uN (by omega) ?_ | assumption | exact hd _ (by omega) | fail), trivial⟩ (by omega) ?_
  refine' rls (gn rfl) rfl (step_storeA rfl rfl rfl rfl F.agg25 ?hm ?hl) ⟨?hb, trivial⟩ ?hk ?_
  case hb => repeat (first | exact uE | refine uN (by omega) ?_ | assumption | exact hd _ (by omega) | fail)
  case hm => first | rfl | (simp; done) | (first | (rw [bytesV_len, wE_len]; omega) | (simp; done))
  case hl => first | rfl | (simp; done) | (first | (rw [bytesV_len, wE_len]; omega) | (simp; done))
  case hk => omega
  refine rl0 (gn rfl) rfl rfl (step_as rfl rfl) trivial ?_
  refine runsL_nil ?_
  refine runs_seq ?_
  refine runs_region ?_
  refine rl0 (gn rfl) rfl rfl (step_build (ss := [1, 1, 1, 1, 1, 6, 1, 1]) (zs := [.int .u64 0, .int .i64 0, .int .u64 0, .int .u64 0, .int .u64 0, .int .u64 0, .int .u64 0, .int .u32 0, .int .u32 0, .string ByteArray.empty, .bool false, .slice none 0 0, .slice none 0 0]) rfl Try.underlying29 (by kernel_rfl) F.zero29 rfl rfl rfl) trivial ?_
  refine rl0 (gn rfl) rfl rfl (step_callc rfl Try.func8 rfl rfl rfl (put_no zEn zE_ok (by decide) (by decide +kernel)) (by repeat (first | exact .nil | refine .cons ?_ ?_ | exact VLe.refl _ | exact VLe.own_sl _ _ _ | exact VLe.fl_sl _ _ | exact VLe.nil_sl _ | exact VLe.refl _ | (rw [bytesV_snoc]; exact VLe.own_sl _ _ _) | refine VLe.agg ?_))) trivial ?_
  refine rl0 (gn rfl) rfl rfl (step_mv rfl rfl) trivial ?_
  refine rl0 (gn rfl) rfl rfl (step_extract rfl (ev_mk rfl) rfl) trivial ?_
  refine rl0 (gn rfl) rfl rfl (step_extract rfl (ev_mk rfl) rfl) trivial ?_
  refine rl0 (gn rfl) rfl rfl (step_as rfl rfl) trivial ?_
  refine rl0 (gn rfl) rfl rfl (step_as rfl rfl) trivial ?_
  refine runsL_nil ?_
  refine runs_seq ?_
  refine runs_region ?_
  refine rl0 (gn rfl) rfl rfl (step_mv rfl rfl) trivial ?_
  refine rl_eql (gn rfl) rfl rfl rfl rfl rfl (fun h2 => ?_) (fun h2 => ?_)
  rotate_left
  · exact False.elim (by omega)
  refine rl0 (gn rfl) rfl rfl (step_mv rfl rfl) trivial ?_
  refine rl0 (gy rfl rfl rfl rfl rfl rfl) rfl rfl (step_mv rfl rfl) trivial ?_
  refine rl0 (gy rfl rfl rfl rfl rfl rfl) rfl rfl (step_len_g rfl rfl (ev_mk rfl) Try.underlying32) trivial ?_
  refine rl_eql (gy rfl rfl rfl rfl rfl rfl) rfl rfl rfl rfl rfl (fun h3 => ?_) (fun h3 => ?_)
  rotate_left
  · exact False.elim (by omega)
  refine rl0 (gn rfl) rfl rfl (step_pick rfl (ev_mk rfl) (ev_mk rfl)) trivial ?_
  refine rl0 (gn rfl) rfl rfl (step_mv rfl rfl) trivial ?_
  refine rl0 (gy rfl rfl rfl rfl rfl rfl) rfl rfl (step_mv rfl rfl) trivial ?_
  refine rl_eql (gy rfl rfl rfl rfl rfl rfl) rfl rfl rfl rfl rfl (fun h4 => ?_) (fun h4 => ?_)
  rotate_left
  · exact False.elim (by omega)
  refine rl0 (gn rfl) rfl rfl (step_pick rfl (ev_mk rfl) (ev_mk rfl)) trivial ?_
  refine rl0 (gn rfl) rfl rfl (step_mv rfl rfl) trivial ?_
  refine' rl0 (gy rfl rfl rfl rfl rfl rfl) rfl rfl (step_load_all rfl rfl F.agg29 ?hl) ⟨?hb, trivial⟩ ?_
  case hb => repeat (first | exact uE | refine uN (by omega) ?_ | assumption | exact hd _ (by omega) | fail)
  case hl => first | rfl | (simp; done) | (first | (rw [bytesV_len, wE_len]; omega) | (simp; done))
  refine' rl0 (gy rfl rfl rfl rfl rfl rfl) rfl rfl (step_load_all rfl rfl F.agg29 ?hl) ⟨?hb, trivial⟩ ?_
  case hb => repeat (first | exact uE | refine uN (by omega) ?_ | assumption | exact hd _ (by omega) | fail)
  case hl => first | rfl | (simp; done) | (first | (rw [bytesV_len, wE_len]; omega) | (simp; done))
  refine rl0 (gy rfl rfl rfl rfl rfl rfl) rfl rfl (step_callc rfl Try.func14 rfl rfl rfl (wk_rsame) (by repeat (first | exact .nil | refine .cons ?_ ?_ | exact VLe.refl _ | exact VLe.own_sl _ _ _ | exact VLe.fl_sl _ _ | exact VLe.nil_sl _ | exact VLe.refl _ | (rw [bytesV_snoc]; exact VLe.own_sl _ _ _) | refine VLe.agg ?_))) trivial ?_
  refine rl0 (gn rfl) rfl rfl (step_pick rfl (ev_mk rfl) (ev_mk rfl)) trivial ?_
  refine rl0 (gn rfl) rfl rfl (step_mv rfl rfl) trivial ?_
  refine rl0 (gy rfl rfl rfl rfl rfl rfl) rfl rfl (step_mv rfl rfl) trivial ?_
  refine rl_eql (gy rfl rfl rfl rfl rfl rfl) rfl rfl rfl rfl rfl (fun h5 => ?_) (fun h5 => ?_)
  rotate_left
  · exact False.elim (by omega)
  refine rl0 (gn rfl) rfl rfl (step_pick rfl (ev_mk rfl) (ev_mk rfl)) trivial ?_
  refine rl0 (gn rfl) rfl rfl (step_mv rfl rfl) trivial ?_
  refine rl0 (gy rfl rfl rfl rfl rfl rfl) rfl rfl (step_mv rfl rfl) trivial ?_
  refine rl0 (gn rfl) rfl rfl (step_pick rfl (ev_mk rfl) (ev_mk rfl)) trivial ?_
  refine rl0 (gn rfl) rfl rfl (step_mv rfl rfl) trivial ?_
  refine' rl0 (gy rfl rfl rfl rfl rfl rfl) rfl rfl (step_load_all rfl rfl F.agg25 ?hl) ⟨?hb, trivial⟩ ?_
  case hb => repeat (first | exact uE | refine uN (by omega) ?_ | assumption | exact hd _ (by omega) | fail)
  case hl => first | rfl | (simp; done) | (first | (rw [bytesV_len, wE_len]; omega) | (simp; done))
  refine rl0 (gy rfl rfl rfl rfl rfl rfl) rfl rfl (step_fieldAddr (off := 5) rfl (ev_mk rfl) Try.underlying29 rfl F.sz25 rfl) trivial ?_
  refine' rl0 (gy rfl rfl rfl rfl rfl rfl) rfl rfl (step_load_agg rfl (ev_mk rfl) F.agg25 ?hc ?hl) ⟨?hb, trivial⟩ ?_
  case hb => repeat (first | exact uE | refine uN (by omega) ?_ | assumption | exact hd _ (by omega) | fail)
  case hc => rfl
  case hl => first | rfl | (simp; done) | (first | (rw [bytesV_len, wE_len]; omega) | (simp; done))
  refine rl0 (gy rfl rfl rfl rfl rfl rfl) rfl rfl (step_eql25 (a := wE.r) (b := wE.r) rfl (ev_mk rfl) (ev_mk rfl)) trivial ?_
  refine rl_know (d := 82) (c := true) rfl ((by decide +kernel)) ?_
  refine rl0 (gn rfl) rfl rfl (step_pick rfl (ev_mk rfl) (ev_mk rfl)) trivial ?_
  refine rl0 (gn rfl) rfl rfl (step_mv rfl rfl) trivial ?_
  refine rl0 (gy rfl rfl rfl rfl rfl rfl) rfl rfl (step_mv rfl rfl) trivial ?_
  refine rl_eql (gy rfl rfl rfl rfl rfl rfl) rfl rfl rfl rfl rfl (fun h6 => ?_) (fun h6 => ?_)
  rotate_left
  · exact False.elim (by have h_ : chkF zEn = 1 := (by decide +kernel); omega)
  refine rl0 (gn rfl) rfl rfl (step_pick rfl (ev_mk rfl) (ev_mk rfl)) trivial ?_
  refine rl0 (gn rfl) rfl rfl (step_mv rfl rfl) trivial ?_
  refine' rl0 (gy rfl rfl rfl rfl rfl rfl) rfl rfl (step_load_all rfl rfl F.agg29 ?hl) ⟨?hb, trivial⟩ ?_
  case hb => repeat (first | exact uE | refine uN (by omega) ?_ | assumption | exact hd _ (by omega) | fail)
  case hl => first | rfl | (simp; done) | (first | (rw [bytesV_len, wE_len]; omega) | (simp; done))
  refine' rl0 (gy rfl rfl rfl rfl rfl rfl) rfl rfl (step_load_all rfl rfl F.agg29 ?hl) ⟨?hb, trivial⟩ ?_
  case hb => repeat (first | exact uE | refine uN (by omega) ?_ | assumption | exact hd _ (by omega) | fail)
  case hl => first | rfl | (simp; done) | (first | (rw [bytesV_len, wE_len]; omega) | (simp; done))
  refine rl0 (gy rfl rfl rfl rfl rfl rfl) rfl rfl (step_callc rfl Try.func13 rfl rfl rfl (wk_same) (by repeat (first | exact .nil | refine .cons ?_ ?_ | exact VLe.refl _ | exact VLe.own_sl _ _ _ | exact VLe.fl_sl _ _ | exact VLe.nil_sl _ | exact VLe.refl _ | (rw [bytesV_snoc]; exact VLe.own_sl _ _ _) | refine VLe.agg ?_))) trivial ?_
  refine rl0 (gn rfl) rfl rfl (step_pick rfl (ev_mk rfl) (ev_mk rfl)) trivial ?_
  refine rl0 (gn rfl) rfl rfl (step_mv rfl rfl) trivial ?_
  refine' rl0 (gy rfl rfl rfl rfl rfl rfl) rfl rfl (step_load_all rfl rfl F.agg29 ?hl) ⟨?hb, trivial⟩ ?_
  case hb => repeat (first | exact uE | refine uN (by omega) ?_ | assumption | exact hd _ (by omega) | fail)
  case hl => first | rfl | (simp; done) | (first | (rw [bytesV_len, wE_len]; omega) | (simp; done))
  refine rl0 (gy rfl rfl rfl rfl rfl rfl) rfl rfl (step_build (ss := [1, 1, 1, 1, 1, 6, 1, 1]) (zs := [.int .u64 0, .int .i64 0, .int .u64 0, .int .u64 0, .int .u64 0, .int .u64 0, .int .u64 0, .int .u32 0, .int .u32 0, .string ByteArray.empty, .bool false, .slice none 0 0, .slice none 0 0]) rfl Try.underlying29 (by kernel_rfl) F.zero29 rfl rfl rfl) trivial ?_
  refine rl0 (gy rfl rfl rfl rfl rfl rfl) rfl rfl (step_callc rfl Try.func13 rfl rfl rfl (wk_diff) (by repeat (first | exact .nil | refine .cons ?_ ?_ | exact VLe.refl _ | exact VLe.own_sl _ _ _ | exact VLe.fl_sl _ _ | exact VLe.nil_sl _ | exact VLe.refl _ | (rw [bytesV_snoc]; exact VLe.own_sl _ _ _) | refine VLe.agg ?_))) trivial ?_
  refine rl0 (gy rfl rfl rfl rfl rfl rfl) rfl rfl (step_unOp (c := .bool true) rfl (ev_mk rfl) (fun _ => rfl)) trivial ?_
  refine rl0 (gn rfl) rfl rfl (step_pick rfl (ev_mk rfl) (ev_mk rfl)) trivial ?_
  refine rl0 (gn rfl) rfl rfl (step_mv rfl rfl) trivial ?_
  refine rl0 (gy rfl rfl rfl rfl rfl rfl) rfl rfl (step_fieldAddr (off := 5) rfl (ev_mk rfl) Try.underlying29 rfl F.sz25 rfl) trivial ?_
  refine' rl0 (gy rfl rfl rfl rfl rfl rfl) rfl rfl (step_load_agg rfl (ev_mk rfl) F.agg25 ?hc ?hl) ⟨?hb, trivial⟩ ?_
  case hb => repeat (first | exact uE | refine uN (by omega) ?_ | assumption | exact hd _ (by omega) | fail)
  case hc => rfl
  case hl => first | rfl | (simp; done) | (first | (rw [bytesV_len, wE_len]; omega) | (simp; done))
  refine rl0 (gy rfl rfl rfl rfl rfl rfl) rfl rfl (step_callc rfl Try.func17 rfl rfl rfl (rec_c wE.r wE_ok.2.2.2.2.1 (by decide)) (by repeat (first | exact .nil | refine .cons ?_ ?_ | exact VLe.refl _ | exact VLe.own_sl _ _ _ | exact VLe.fl_sl _ _ | exact VLe.nil_sl _ | exact VLe.refl _ | (rw [bytesV_snoc]; exact VLe.own_sl _ _ _) | refine VLe.agg ?_))) trivial ?_
  refine rl0 (gy rfl rfl rfl rfl rfl rfl) rfl rfl (step_len (m := (recF wE.r).length) rfl rfl (ev_mk rfl) (.inl ⟨⟨_, Try.underlying32⟩, .inl ⟨_, _, .inl rfl, List.length_map _⟩⟩)) trivial ?_
  refine rl_eql (gy rfl rfl rfl rfl rfl rfl) rfl rfl rfl rfl rfl (fun h7 => ?_) (fun h7 => ?_)
  rotate_left
  · exact False.elim (by (have h_ := recF_len (r := wE.r) (by decide); omega))
  refine rl0 (gn rfl) rfl rfl (step_pick rfl (ev_mk rfl) (ev_mk rfl)) trivial ?_
  refine rl0 (gn rfl) rfl rfl (step_mv rfl rfl) trivial ?_
  refine rl0 (gy rfl rfl rfl rfl rfl rfl) rfl rfl (step_callc rfl Try.func15 rfl rfl rfl (bound_c 1 1 (by omega) (by omega)) (by repeat (first | exact .nil | refine .cons ?_ ?_ | exact VLe.refl _ | exact VLe.own_sl _ _ _ | exact VLe.fl_sl _ _ | exact VLe.nil_sl _ | exact VLe.refl _ | (rw [bytesV_snoc]; exact VLe.own_sl _ _ _) | refine VLe.agg ?_))) trivial ?_
  refine rl_eql (gy rfl rfl rfl rfl rfl rfl) rfl rfl rfl rfl rfl (fun h8 => ?_) (fun h8 => ?_)
  rotate_left
  · exact False.elim (by omega)
  refine rl0 (gn rfl) rfl rfl (step_pick rfl (ev_mk rfl) (ev_mk rfl)) trivial ?_
  refine rl0 (gn rfl) rfl rfl (step_mv rfl rfl) trivial ?_
  refine' rl0 (gy rfl rfl rfl rfl rfl rfl) rfl rfl (step_load_all rfl rfl F.agg29 ?hl) ⟨?hb, trivial⟩ ?_
  case hb => repeat (first | exact uE | refine uN (by omega) ?_ | assumption | exact hd _ (by omega) | fail)
  case hl => first | rfl | (simp; done) | (first | (rw [bytesV_len, wE_len]; omega) | (simp; done))
  refine rl0 (gy rfl rfl rfl rfl rfl rfl) rfl rfl (step_callc rfl Try.func11 rfl rfl rfl (check_c wE (by decide) wE_okp) (by repeat (first | exact .nil | refine .cons ?_ ?_ | exact VLe.refl _ | exact VLe.own_sl _ _ _ | exact VLe.fl_sl _ _ | exact VLe.nil_sl _ | exact VLe.refl _ | (rw [bytesV_snoc]; exact VLe.own_sl _ _ _) | refine VLe.agg ?_))) trivial ?_
  refine rl_eql (gy rfl rfl rfl rfl rfl rfl) rfl rfl rfl rfl rfl (fun h9 => ?_) (fun h9 => ?_)
  rotate_left
  · exact False.elim (by (have h_ := wE_chk; omega))
  refine rl0 (gn rfl) rfl rfl (step_pick rfl (ev_mk rfl) (ev_mk rfl)) trivial ?_
  refine rl0 (gn rfl) rfl rfl (step_as rfl rfl) trivial ?_
  refine runsL_nil ?_
  refine runs_ret ?_
  refine ⟨by first | exact .inr rfl | exact .inl rfl, fin_mkg (rest rfl res0) ?_ ?_ ?_ ?_ ?_⟩
  · (repeat' (first | exact VLe.refl _ | exact VLe.own_sl _ _ _ | exact VLe.fl_sl _ _ | exact VLe.nil_sl _ | exact VLe.nil_fl _ | exact VLes.refl _ | exact .nil | refine VLe.tup ?_ | refine VLe.agg ?_ | refine .cons ?_ ?_ | (rw [Int.natCast_add]; exact VLe.refl _) | exact vle_int (by omega) | exact vle_bool (by first | rfl | assumption | (simp_all; done)) | fail))
  · repeat (first | exact trivial | assumption | omega | (refine bdR_map (fun _ => ?_)) | (refine bdL_map (fun _ => ?_)) | refine ⟨?_, ?_⟩ | fail)
  · intro k_ hk_; exact ble (by repeat (first | exact rfl | refine uN (by omega) ?_ | assumption | fail))
  · intro p hp; cases hp
  · repeat (first | exact trivial | assumption | omega | (refine bdR_map (fun _ => ?_)) | (refine bdL_map (fun _ => ?_)) | refine ⟨?_, ?_⟩ | fail)
end Go.Proofs.Ytgfmjipdegkemaa
