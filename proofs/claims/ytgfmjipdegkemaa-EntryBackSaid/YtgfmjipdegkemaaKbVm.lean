/- Walks by the logic of values. -/
import Derived.Test.YtgfmjipdegkemaaKbVmR
import Derived.Test.YtgfmjipdegkemaaKbVmQ
import Derived.Test.YtgfmjipdegkemaaKbVa
import Derived.Test.YtgfmjipdegkemaaKbVb
import Derived.Test.YtgfmjipdegkemaaKbVd
import Derived.Test.YtgfmjipdegkemaaKbVe
import Derived.Test.YtgfmjipdegkemaaKbVj
import Derived.Test.YtgfmjipdegkemaaKbVl
import Derived.Test.YtgfmjipdegkemaaKbWa
import Derived.Test.YtgfmjipdegkemaaKbWb
import Derived.Test.YtgfmjipdegkemaaKbWc
import Derived.Test.YtgfmjipdegkemaaKbWd
import Derived.Test.YtgfmjipdegkemaaKbWe
import Derived.Test.YtgfmjipdegkemaaKbVmT
import Derived.Test.YtgfmjipdegkemaaKbVmP
namespace Go.Proofs.Ytgfmjipdegkemaa
open Go.Vm
set_option linter.unusedVariables false
set_option linter.unusedSimpArgs false
open Crc
attribute [local irreducible] Go.Vm.beB Go.Vm.fieldB
def e1 (s : List Int × Bool) := rS s 1
def e2 (s : List Int × Bool) := rS (e1 s) 8
def e3 (s : List Int × Bool) := rS (e2 s) 8
def e4 (s : List Int × Bool) := rS (e3 s) 8
def e5 (s : List Int × Bool) := rS (e4 s) 8
def e6 (s : List Int × Bool) := q6 (e5 s)
def e7 (s : List Int × Bool) := rS (e6 s) 1
def eK (s : List Int × Bool) : Int := rN (e6 s) 1
def pS (s : List Int × Bool) : Nat → List Int × Bool
  | 0 => e7 s
  | j + 1 => g3 (pS s j)
def pL (s : List Int × Bool) : Nat → List Im
  | 0 => []
  | j + 1 => pL s j ++ [pgI (pS s j)]
def e8 (s : List Int × Bool) := pS s (eK s).toNat
def eM (s : List Int × Bool) : Int := rN (e8 s) 1
def aS (s : List Int × Bool) : Nat → List Int × Bool
  | 0 => rS (e8 s) 1
  | j + 1 => rS (aS s j) 8
def aL (s : List Int × Bool) : Nat → List Int
  | 0 => []
  | j + 1 => aL s j ++ [rN (aS s j) 8]
def e9 (s : List Int × Bool) := aS s (eM s).toNat
def gEn (s : List Int × Bool) : En := ⟨rN (e1 s) 8, rN s 1, rN (e2 s) 8, rN (e3 s) 8, rN (e4 s) 8, rrV (e5 s), pL s (eK s).toNat, aL s (eM s).toNat⟩
structure GOK (s : List Int × Bool) : Prop where
  r : rrOK (e5 s) = true
  p : ∀ i : Nat, i < (eK s).toNat → pgOK (pS s i) = true
  e : (e9 s).2 = false
  l : (e9 s).1.length = 0
  c : chkF (gEn s) = 0
theorem okS_q6 {s : List Int × Bool} (h : okS s) : okS (q6 s) := ⟨rdX_bytes (okS_rS (okS_rS (okS_rS (okS_rS (okS_rS h 8) 8) 4) 4) 1).1 _ _, Nat.le_trans (rdX_len _ _ _) (okS_rS (okS_rS (okS_rS (okS_rS (okS_rS h 8) 8) 4) 4) 1).2⟩
theorem okS_g3 {s : List Int × Bool} (h : okS s) : okS (g3 s) := okS_rS (okS_rS (okS_rS h 1) 1) _
theorem ok_e5 {s : List Int × Bool} (h : okS s) : okS (e5 s) := okS_rS (okS_rS (okS_rS (okS_rS (okS_rS h 1) 8) 8) 8) 8
theorem ok_pS {s : List Int × Bool} (h : okS s) : ∀ j, okS (pS s j)
  | 0 => okS_rS (okS_q6 (ok_e5 h)) 1
  | j + 1 => okS_g3 (ok_pS h j)
theorem ok_aS {s : List Int × Bool} (h : okS s) : ∀ j, okS (aS s j)
  | 0 => okS_rS (ok_pS h _) 1
  | j + 1 => okS_rS (ok_aS h j) 8
theorem pL_len (s : List Int × Bool) : ∀ j, (pL s j).length = j
  | 0 => rfl
  | j + 1 => by unfold pL; rw [List.length_append, pL_len s j]; rfl
theorem aL_len (s : List Int × Bool) : ∀ j, (aL s j).length = j
  | 0 => rfl
  | j + 1 => by unfold aL; rw [List.length_append, aL_len s j]; rfl
theorem pgI_len (s : List Int × Bool) : (pgI s).p.length = 224 := by
  by_cases h : gE s
  · rw [(pg_E h).1]; exact List.length_replicate
  · rw [(pg_N h).1]; unfold gE at h; show (gB s ++ List.replicate (224 - (gB s).length) 0).length = 224; rw [List.length_append, List.length_replicate]; omega
theorem pL_pg (s : List Int × Bool) : ∀ j, ∀ m ∈ pL s j, m.p.length = 224
  | 0, m, h => by cases h
  | j + 1, m, h => by
    unfold pL at h
    rcases List.mem_append.1 h with h | h
    · exact pL_pg s j m h
    · rw [List.mem_singleton.1 h]; exact pgI_len _
theorem rN_1 {s : List Int × Bool} (h : okS s) : 0 ≤ rN s 1 ∧ rN s 1 < 256 := rN_lt1 h
theorem bd_en (n : Nat) (e : En) : bdL n (enC e) := by
  have hp : ∀ l : List Im, bdR n (l.map imR) := fun l => bdR_map (fun m => ⟨trivial, bdL_map (fun _ => trivial)⟩)
  have ha : ∀ l : List Int, bdR n (l.map acR) := fun l => bdR_map (fun _ => ⟨trivial, trivial⟩)
  exact ⟨trivial, trivial, trivial, trivial, trivial, trivial, trivial, trivial, trivial, trivial, trivial, hp _, ha _, trivial⟩
def zEn : En := ⟨0, 0, 0, 0, 0, zRc, [], []⟩
set_option maxRecDepth 100000 in
set_option maxHeartbeats 4000000 in
theorem d28_0 (a b : Nat) : DoesD Try.prog 28 [.ref a 0, .ref b 0] [(a, .cells [.sc (.int .i64 0)])] [] := by
  refine doesD_mk 40 Try.func28 rfl rfl rfl rfl (fun n B bx hd hpre hup hvs hbx hgx => ?_)
  have hp0 := hpre.1
  have hk0 := lt_cells hd hp0
  refine runs_seq ?_
  refine runs_region ?_
  refine' rl0 (gn rfl) rfl rfl (step_load_one rfl (ev_mk rfl) F.one33 ?hv) ⟨?hb, trivial⟩ ?_
  case hb => repeat (first | exact uE | refine uN (by omega) ?_ | assumption | exact hd _ (by omega) | fail)
  case hv => rfl
  refine rl_neq (gn rfl) rfl rfl rfl rfl rfl (fun h1 => ?_) (fun h1 => ?_)
  · exact False.elim (by omega)
  refine runsL_nil ?_
  refine runs_cond false (ev_mk rfl) (fun h_ => nomatch h_) (fun _ => ?_)
  refine runs_skip ?_
  refine ⟨by first | exact .inr rfl | exact .inl rfl, fin_mkg res0 ?_ ?_ ?_ ?_ ?_⟩
  · (repeat' (first | exact VLe.refl _ | exact VLe.own_sl _ _ _ | exact VLe.fl_sl _ _ | exact VLe.nil_sl _ | exact VLe.nil_fl _ | exact VLes.refl _ | exact .nil | refine VLe.tup ?_ | refine VLe.agg ?_ | refine .cons ?_ ?_ | (rw [Int.natCast_add]; exact VLe.refl _) | exact vle_int (by omega) | exact vle_bool (by first | rfl | assumption | (simp_all; done)) | fail))
  · repeat (first | exact trivial | assumption | omega | (refine bdR_map (fun _ => ?_)) | (refine bdL_map (fun _ => ?_)) | refine ⟨?_, ?_⟩ | fail)
  · intro k_ hk_; exact ble (by repeat (first | exact rfl | refine uN (by omega) ?_ | assumption | fail))
  · intro p hp; cases hp
  · repeat (first | exact trivial | assumption | omega | (refine bdR_map (fun _ => ?_)) | (refine bdL_map (fun _ => ?_)) | refine ⟨?_, ?_⟩ | fail)
set_option maxRecDepth 100000 in
set_option maxHeartbeats 4000000 in
theorem d28_1 (a b : Nat) (c : Int) (hc : ¬ c = 0) (hab : a ≠ b) (cs : List V) (hcs : cs.length = 13) : DoesD Try.prog 28 [.ref a 0, .ref b 0] [(a, .cells [.sc (.int .i64 c)]), (b, .cells cs)] [(b, .cells [.sc (.int .u64 0), .sc (.int .i64 0), .sc (.int .u64 0), .sc (.int .u64 0), .sc (.int .u64 0), .sc (.int .u64 0), .sc (.int .u64 0), .sc (.int .u32 0), .sc (.int .u32 0), .sc (.string ByteArray.empty), .sc (.bool false), .sc (.slice none 0 0), .sc (.slice none 0 0)])] := by
  refine doesD_mk 40 Try.func28 rfl rfl rfl rfl (fun n B bx hd hpre hup hvs hbx hgx => ?_)
  have hp0 := hpre.1
  have hk0 := lt_cells hd hp0
  have hp1 := hpre.2.1
  have hk1 := lt_cells hd hp1
  have hu0 := hup.1
  refine runs_seq ?_
  refine runs_region ?_
  refine' rl0 (gn rfl) rfl rfl (step_load_one rfl (ev_mk rfl) F.one33 ?hv) ⟨?hb, trivial⟩ ?_
  case hb => repeat (first | exact uE | refine uN (by omega) ?_ | assumption | exact hd _ (by omega) | fail)
  case hv => rfl
  refine rl_neq (gn rfl) rfl rfl rfl rfl rfl (fun h1 => ?_) (fun h1 => ?_)
  rotate_left
  · exact False.elim (by omega)
  refine runsL_nil ?_
  refine runs_cond true (ev_mk rfl) (fun _ => ?_) (fun h_ => nomatch h_)
  refine runs_region ?_
  refine rl0 (gn rfl) rfl rfl (step_build (ss := [1, 1, 1, 1, 1, 6, 1, 1]) (zs := [.int .u64 0, .int .i64 0, .int .u64 0, .int .u64 0, .int .u64 0, .int .u64 0, .int .u64 0, .int .u32 0, .int .u32 0, .string ByteArray.empty, .bool false, .slice none 0 0, .slice none 0 0]) rfl Try.underlying29 (by kernel_rfl) F.zero29 rfl rfl rfl) trivial ?_
  refine' rls (gn rfl) rfl (step_storeA rfl rfl rfl rfl F.agg29 ?hm ?hl) ⟨?hb, trivial⟩ ?hk ?_
  case hb => repeat (first | exact uE | refine uN (by omega) ?_ | assumption | exact hd _ (by omega) | fail)
  case hm => first | rfl | (simp; done) | (assumption)
  case hl => first | rfl | (simp; done) | (assumption)
  case hk => omega
  refine runsL_nil ?_
  refine ⟨by first | exact .inr rfl | exact .inl rfl, fin_mkg res0 ?_ ?_ ?_ ?_ ?_⟩
  · (repeat' (first | exact VLe.refl _ | exact VLe.own_sl _ _ _ | exact VLe.fl_sl _ _ | exact VLe.nil_sl _ | exact VLe.nil_fl _ | exact VLes.refl _ | exact .nil | refine VLe.tup ?_ | refine VLe.agg ?_ | refine .cons ?_ ?_ | (rw [Int.natCast_add]; exact VLe.refl _) | exact vle_int (by omega) | exact vle_bool (by first | rfl | assumption | (simp_all; done)) | fail))
  · repeat (first | exact trivial | assumption | omega | (refine bdR_map (fun _ => ?_)) | (refine bdL_map (fun _ => ?_)) | refine ⟨?_, ?_⟩ | fail)
  · intro k_ hk_; simp only [upds]; by_cases e_ : k_ = b; (focus subst e_; refine bl_eq ?_; first | (refine' blec ?hb ?hl; (case hb => repeat (first | exact uE | assumption | refine uN (by omega) ?_ | fail)); (case hl => first | exact VLes.refl _ | ((repeat' (first | exact VLe.refl _ | exact VLe.own_sl _ _ _ | exact VLe.fl_sl _ _ | exact VLe.nil_sl _ | exact VLe.nil_fl _ | exact VLes.refl _ | exact .nil | refine VLe.tup ?_ | refine VLe.agg ?_ | refine .cons ?_ ?_ | (rw [Int.natCast_add]; exact VLe.refl _) | exact vle_int (by omega) | exact vle_bool (by first | rfl | assumption | (simp_all; done)) | fail)); done))) | (refine ble ?_; (repeat (first | exact uE | assumption | refine uN (by omega) ?_ | fail)); done) | exact ble (tl_eq (by repeat (first | exact uE | assumption | refine uN (by omega) ?_ | fail)) (by first | rfl | (simp [bytesV, beB_len]; done) | (simp [bytesV, beB_len]; omega) | omega))); refine bl_ne e_ ?_; exact ble (by repeat (first | exact rfl | refine uN (by omega) ?_ | assumption | fail))
  · intro p hp cs hcs; simp only [List.mem_cons, List.not_mem_nil, or_false] at hp; (first | (rcases hp with rfl)) <;> (first | (cases hcs; done) | (cases hcs; repeat (first | exact trivial | assumption | omega | (refine bdR_map (fun _ => ?_)) | (refine bdL_map (fun _ => ?_)) | refine ⟨?_, ?_⟩ | fail)))
  · repeat (first | exact trivial | assumption | omega | (refine bdR_map (fun _ => ?_)) | (refine bdL_map (fun _ => ?_)) | refine ⟨?_, ?_⟩ | fail)
theorem num_e (k : Nat) (s t : List Int × Bool) (hs : okS s) (m : Nat) (hm : m = 1 ∨ m = 8) (ht : t = rS s m) (v : Int) (hv : v = rN s m) : Does Try.prog 29 [.ref k 0, .sc (.int .i64 m)] [(k, .cells (rdB s.1 s.2))] [(k, .cells (rdB t.1 t.2))] (.sc (.int .u64 v)) := by
  subst ht hv
  rcases hm with rfl | rfl
  · exact num_g1 k s hs
  · exact num_g8 k s hs
theorem rr_e (k : Nat) (s t : List Int × Bool) (hs : okS s) (h : rrOK s = true) (ht : t = q6 s) : Does Try.prog 18 [.ref k 0] [(k, .cells (rdB s.1 s.2))] [(k, .cells (rdB t.1 t.2))] (.tup [.agg (rcC (rrV s)), .sc (.bool true)]) := by
  subst ht; exact rr_ok k s.1 s.2 hs.1 hs.2 h
theorem rr_f (k : Nat) (s t : List Int × Bool) (hs : okS s) (h : rrOK s = false) (ht : t = q6 s) : Does Try.prog 18 [.ref k 0] [(k, .cells (rdB s.1 s.2))] [(k, .cells (rdB t.1 t.2))] (.tup [.agg (rcC zRc), .sc (.bool false)]) := by
  subst ht; exact rr_no k s.1 s.2 hs.1 hs.2 h
theorem page_e (k : Nat) (s t : List Int × Bool) (hs : okS s) (ht : t = g3 s) : Does Try.prog 30 [.ref k 0] [(k, .cells (rdB s.1 s.2))] [(k, .cells (rdB t.1 t.2))] (.tup [.agg (imR (pgI s)), .sc (.bool (pgOK s))]) := by
  subst ht; exact page_c k s.1 s.2 hs.1 hs.2
set_option maxRecDepth 100000 in
set_option maxHeartbeats 4000000 in
theorem get_bad (b : List Int) (hb : Byts b) (hl : b.length ≤ 1000000) (hs : sealOK b = false) : Does Try.prog 16 [.sl 1 (bytesV b)] [] [] (.tup [.agg (enC zEn), .sc (.int .i64 5)]) := by
  refine does_defer 40 Try.func16 rfl rfl rfl (fun n X0 hd hpre hup hvs => ?_)
  have s0 : okS (sealG b, false) := ⟨sealG_byts hb, Nat.le_trans (sealG_len b) (by omega)⟩
  have s1 : okS (e1 (sealG b, false)) := okS_rS s0 1
  have s2 : okS (e2 (sealG b, false)) := okS_rS s1 8
  have s3 : okS (e3 (sealG b, false)) := okS_rS s2 8
  have s4 : okS (e4 (sealG b, false)) := okS_rS s3 8
  have s5 : okS (e5 (sealG b, false)) := okS_rS s4 8
  have s6 : okS (e6 (sealG b, false)) := okS_q6 s5
  have sp := ok_pS s0
  have sa := ok_aS s0
  have v0 := rN_1 s0
  have vK : 0 ≤ eK (sealG b, false) ∧ eK (sealG b, false) < 256 := rN_1 s6
  have vM : 0 ≤ eM (sealG b, false) ∧ eM (sealG b, false) < 256 := rN_1 (sp _)
  refine runs_seq ?_
  refine runs_region ?_
  refine rl1 (gn rfl) rfl rfl (step_allocc (k := n + 0) (zs := [.int .u64 0, .int .i64 0, .int .u64 0, .int .u64 0, .int .u64 0, .int .u64 0, .int .u64 0, .int .u32 0, .int .u32 0, .string ByteArray.empty, .bool false, .slice none 0 0, .slice none 0 0]) (cs := [.sc (.int .u64 0), .sc (.int .i64 0), .sc (.int .u64 0), .sc (.int .u64 0), .sc (.int .u64 0), .sc (.int .u64 0), .sc (.int .u64 0), .sc (.int .u32 0), .sc (.int .u32 0), .sc (.string ByteArray.empty), .sc (.bool false), .sc (.slice none 0 0), .sc (.slice none 0 0)]) rfl F.zero29 (by first | rfl | simp) (by first | rfl | decide | simp) (by first | rfl | simp)) ⟨by repeat (first | exact uE | refine uN (by omega) ?_ | assumption | exact hd _ (by omega) | fail), trivial⟩ (by omega) ?_
  refine rl1 (gn rfl) rfl rfl (step_allocc (k := n + 1) (zs := [.int .i64 0]) (cs := [.sc (.int .i64 0)]) rfl F.zero33 (by first | rfl | simp) (by first | rfl | decide | simp) (by first | rfl | simp)) ⟨by repeat (first | exact uE | refine uN (by omega) ?_ | assumption | exact hd _ (by omega) | fail), trivial⟩ (by omega) ?_
  refine runsL_nil ?_
  refine runs_seq ?_
  refine runs_region ?_
  refine rl0 (gn rfl) rfl rfl (step_mv rfl rfl) trivial ?_
  refine rl0 (gn rfl) rfl rfl (step_callc rfl Try.func27 rfl rfl rfl (sget_c b hb (by omega)) (by repeat (first | exact .nil | refine .cons ?_ ?_ | exact VLe.refl _ | exact VLe.own_sl _ _ _ | exact VLe.fl_sl _ _ | exact VLe.nil_sl _ | exact VLe.nil_fl _ | refine VLe.agg ?_))) trivial ?_
  refine rl0 (gn rfl) rfl rfl (step_mv rfl rfl) trivial ?_
  refine rl0 (gn rfl) rfl rfl (step_extract rfl (ev_mk rfl) rfl) trivial ?_
  refine rl0 (gn rfl) rfl rfl (step_extract rfl (ev_mk rfl) rfl) trivial ?_
  refine rl0 (gn rfl) rfl rfl (step_as rfl rfl) trivial ?_
  refine rl0 (gn rfl) rfl rfl (step_as rfl rfl) trivial ?_
  refine runsL_nil ?_
  refine runs_seq ?_
  refine runs_seq ?_
  refine runs_region ?_
  refine rl0 (gn rfl) rfl rfl (step_mv rfl rfl) trivial ?_
  refine rl0 (gn rfl) rfl rfl (step_unOp rfl (ev_mk rfl) (fun _ => rfl)) trivial ?_
  refine rl_know (d := 14) (c := true) rfl (by rw [hs]; rfl) ?_
  refine runsL_nil ?_
  refine runs_cond true (ev_mk rfl) (fun _ => ?_) (fun h_ => nomatch h_)
  refine runs_seq ?_
  refine runs_region ?_
  refine rl0 (gn rfl) rfl rfl (step_build (ss := [1, 1, 1, 1, 1, 6, 1, 1]) (zs := [.int .u64 0, .int .i64 0, .int .u64 0, .int .u64 0, .int .u64 0, .int .u64 0, .int .u64 0, .int .u32 0, .int .u32 0, .string ByteArray.empty, .bool false, .slice none 0 0, .slice none 0 0]) rfl Try.underlying29 (by kernel_rfl) F.zero29 rfl rfl rfl) trivial ?_
  refine' rls (gn rfl) rfl (step_storeA rfl rfl rfl rfl F.agg29 ?hm ?hl) ⟨?hb, trivial⟩ ?hk ?_
  case hb => repeat (first | exact uE | refine uN (by omega) ?_ | assumption | exact hd _ (by omega) | fail)
  case hm => first | rfl | (simp; done) | (first | rfl | (simp; done) | exact imR_len (pgI_len _))
  case hl => first | rfl | (simp; done) | (first | rfl | (simp; done) | exact imR_len (pgI_len _))
  case hk => omega
  refine' rls (gn rfl) rfl (step_store1 rfl rfl rfl rfl F.one33 rfl rfl ?hl ?hc) ⟨?hb, trivial⟩ ?hk ?_
  case hb => repeat (first | exact uE | refine uN (by omega) ?_ | assumption | exact hd _ (by omega) | fail)
  case hl => first | exact Nat.le_of_ble_eq_true rfl | decide | (simp; done) | (simp; omega) | (first | rfl | (simp; done) | exact imR_len (pgI_len _))
  case hc => first | (simp only [List.set_cons_succ, List.set_cons_zero]; rfl) | rfl
  case hk => omega
  refine runsL_nil ?_
  refine runs_ret ?_
  refine ⟨by first | exact .inr rfl | exact .inl rfl, fin_mkg (resc rfl (by repeat (first | exact uE | refine uN (by omega) ?_ | assumption | exact hd _ (by omega) | fail)) F.agg29 (by first | rfl | (simp; done) | (first | rfl | (simp; done) | exact imR_len (pgI_len _))) (resc1 rfl (by repeat (first | exact uE | refine uN (by omega) ?_ | assumption | exact hd _ (by omega) | fail)) F.one33 rfl res0)) ?_ ?_ ?_ ?_ ?_⟩
  · (repeat' (first | exact VLe.refl _ | exact VLe.own_sl _ _ _ | exact VLe.fl_sl _ _ | exact VLe.nil_sl _ | exact VLe.nil_fl _ | exact VLes.refl _ | exact .nil | refine VLe.tup ?_ | refine VLe.agg ?_ | refine .cons ?_ ?_ | (rw [Int.natCast_add]; exact VLe.refl _) | exact vle_int (by omega) | exact vle_bool (by first | rfl | assumption | (simp_all; done)) | fail))
  · first | (exact ⟨bd_en _ _, trivial, trivial⟩; done) | (repeat (first | exact trivial | assumption | omega | (refine bdR_map (fun _ => ?_)) | (refine bdL_map (fun _ => ?_)) | refine ⟨?_, ?_⟩ | fail))
  · intro k_ hk_; exact ble (by repeat (first | exact rfl | refine uN (by omega) ?_ | assumption | fail))
  · intro p hp; cases hp
  · first | (exact ⟨bd_en _ _, trivial, trivial⟩; done) | (repeat (first | exact trivial | assumption | omega | (refine bdR_map (fun _ => ?_)) | (refine bdL_map (fun _ => ?_)) | refine ⟨?_, ?_⟩ | fail))
set_option maxRecDepth 100000 in
set_option maxHeartbeats 4000000 in
theorem get_ok (b : List Int) (hb : Byts b) (hl : b.length ≤ 1000000) (hs : sealOK b = true) (hG : GOK (sealG b, false)) : Does Try.prog 16 [.sl 1 (bytesV b)] [] [] (.tup [.agg (enC (gEn (sealG b, false))), .sc (.int .i64 0)]) := by
  refine does_defer 40 Try.func16 rfl rfl rfl (fun n X0 hd hpre hup hvs => ?_)
  have s0 : okS (sealG b, false) := ⟨sealG_byts hb, Nat.le_trans (sealG_len b) (by omega)⟩
  have s1 : okS (e1 (sealG b, false)) := okS_rS s0 1
  have s2 : okS (e2 (sealG b, false)) := okS_rS s1 8
  have s3 : okS (e3 (sealG b, false)) := okS_rS s2 8
  have s4 : okS (e4 (sealG b, false)) := okS_rS s3 8
  have s5 : okS (e5 (sealG b, false)) := okS_rS s4 8
  have s6 : okS (e6 (sealG b, false)) := okS_q6 s5
  have sp := ok_pS s0
  have sa := ok_aS s0
  have v0 := rN_1 s0
  have vK : 0 ≤ eK (sealG b, false) ∧ eK (sealG b, false) < 256 := rN_1 s6
  have vM : 0 ≤ eM (sealG b, false) ∧ eM (sealG b, false) < 256 := rN_1 (sp _)
  refine runs_seq ?_
  refine runs_region ?_
  refine rl1 (gn rfl) rfl rfl (step_allocc (k := n + 0) (zs := [.int .u64 0, .int .i64 0, .int .u64 0, .int .u64 0, .int .u64 0, .int .u64 0, .int .u64 0, .int .u32 0, .int .u32 0, .string ByteArray.empty, .bool false, .slice none 0 0, .slice none 0 0]) (cs := [.sc (.int .u64 0), .sc (.int .i64 0), .sc (.int .u64 0), .sc (.int .u64 0), .sc (.int .u64 0), .sc (.int .u64 0), .sc (.int .u64 0), .sc (.int .u32 0), .sc (.int .u32 0), .sc (.string ByteArray.empty), .sc (.bool false), .sc (.slice none 0 0), .sc (.slice none 0 0)]) rfl F.zero29 (by first | rfl | simp) (by first | rfl | decide | simp) (by first | rfl | simp)) ⟨by repeat (first | exact uE | refine uN (by omega) ?_ | assumption | exact hd _ (by omega) | fail), trivial⟩ (by omega) ?_
  refine rl1 (gn rfl) rfl rfl (step_allocc (k := n + 1) (zs := [.int .i64 0]) (cs := [.sc (.int .i64 0)]) rfl F.zero33 (by first | rfl | simp) (by first | rfl | decide | simp) (by first | rfl | simp)) ⟨by repeat (first | exact uE | refine uN (by omega) ?_ | assumption | exact hd _ (by omega) | fail), trivial⟩ (by omega) ?_
  refine runsL_nil ?_
  refine runs_seq ?_
  refine runs_region ?_
  refine rl0 (gn rfl) rfl rfl (step_mv rfl rfl) trivial ?_
  refine rl0 (gn rfl) rfl rfl (step_callc rfl Try.func27 rfl rfl rfl (sget_c b hb (by omega)) (by repeat (first | exact .nil | refine .cons ?_ ?_ | exact VLe.refl _ | exact VLe.own_sl _ _ _ | exact VLe.fl_sl _ _ | exact VLe.nil_sl _ | exact VLe.nil_fl _ | refine VLe.agg ?_))) trivial ?_
  refine rl0 (gn rfl) rfl rfl (step_mv rfl rfl) trivial ?_
  refine rl0 (gn rfl) rfl rfl (step_extract rfl (ev_mk rfl) rfl) trivial ?_
  refine rl0 (gn rfl) rfl rfl (step_extract rfl (ev_mk rfl) rfl) trivial ?_
  refine rl0 (gn rfl) rfl rfl (step_as rfl rfl) trivial ?_
  refine rl0 (gn rfl) rfl rfl (step_as rfl rfl) trivial ?_
  refine runsL_nil ?_
  refine runs_seq ?_
  refine runs_seq ?_
  refine runs_region ?_
  refine rl0 (gn rfl) rfl rfl (step_mv rfl rfl) trivial ?_
  refine rl0 (gn rfl) rfl rfl (step_unOp rfl (ev_mk rfl) (fun _ => rfl)) trivial ?_
  refine rl_know (d := 14) (c := false) rfl (by rw [hs]; rfl) ?_
  refine runsL_nil ?_
  refine runs_cond false (ev_mk rfl) (fun h_ => nomatch h_) (fun _ => ?_)
  refine runs_skip ?_
  refine runs_seq ?_
  refine runs_region ?_
  refine' rls (gn rfl) rfl (step_store1 rfl rfl rfl rfl F.one33 rfl rfl ?hl ?hc) ⟨?hb, trivial⟩ ?hk ?_
  case hb => repeat (first | exact uE | refine uN (by omega) ?_ | assumption | exact hd _ (by omega) | fail)
  case hl => first | exact Nat.le_of_ble_eq_true rfl | decide | (simp; done) | (simp; omega) | (first | rfl | (simp; done) | exact imR_len (pgI_len _))
  case hc => first | (simp only [List.set_cons_succ, List.set_cons_zero]; rfl) | rfl
  case hk => omega
  refine runsL_nil ?_
  refine runs_defer rfl rfl rfl rfl rfl rfl rfl rfl Try.func28 rfl rfl (fun B' => ?_)
  refine runs_seq ?_
  refine runs_region ?_
  refine rl0 (gn rfl) rfl rfl (step_mv rfl rfl) trivial ?_
  refine rl1 (gn rfl) rfl rfl (step_callc rfl Try.func19 rfl rfl rfl (read_c (sealG b) (n + 2) (by have := sealG_len b; omega)) (by repeat (first | exact .nil | refine .cons ?_ ?_ | exact VLe.refl _ | exact VLe.own_sl _ _ _ | exact VLe.fl_sl _ _ | exact VLe.nil_sl _ | exact VLe.nil_fl _ | refine VLe.agg ?_))) ⟨by repeat (first | exact uE | refine uN (by omega) ?_ | assumption | exact hd _ (by omega) | fail), trivial⟩ (by omega) ?_
  refine rl0 (gn rfl) rfl rfl (step_as rfl rfl) trivial ?_
  refine runsL_nil ?_
  refine runs_seq ?_
  refine runs_region ?_
  refine rl0 (gn rfl) rfl rfl (step_mv rfl rfl) trivial ?_
  refine rl1 (gn rfl) rfl rfl (step_callc rfl Try.func29 rfl rfl rfl (num_e (n + 2) (sealG b, false) (e1 (sealG b, false)) s0 1 (by omega) rfl (rN (sealG b, false) 1) rfl) (by repeat (first | exact .nil | refine .cons ?_ ?_ | exact VLe.refl _ | exact VLe.own_sl _ _ _ | exact VLe.fl_sl _ _ | exact VLe.nil_sl _ | exact VLe.nil_fl _ | refine VLe.agg ?_))) ⟨by repeat (first | exact uE | refine uN (by omega) ?_ | assumption | exact hd _ (by omega) | fail), trivial⟩ (by omega) ?_
  refine rl0 (gn rfl) rfl rfl (step_conv_id rfl rfl Try.underlying22 Try.underlying3 (w64 (by exact ⟨Int.le_trans (by decide) v0.1, Int.le_of_lt (Int.lt_trans v0.2 (by decide))⟩))) trivial ?_
  refine rl0 (gn rfl) rfl rfl (step_fieldAddr (off := 1) rfl (ev_mk rfl) Try.underlying29 rfl F.sz3 rfl) trivial ?_
  refine' rls (gn rfl) rfl (step_store1 rfl rfl rfl rfl F.one3 rfl rfl ?hl ?hc) ⟨?hb, trivial⟩ ?hk ?_
  case hb => repeat (first | exact uE | refine uN (by omega) ?_ | assumption | exact hd _ (by omega) | fail)
  case hl => first | exact Nat.le_of_ble_eq_true rfl | decide | (simp; done) | (simp; omega) | (first | rfl | (simp; done) | exact imR_len (pgI_len _))
  case hc => first | (simp only [List.set_cons_succ, List.set_cons_zero]; rfl) | rfl
  case hk => omega
  refine runsL_nil ?_
  refine runs_seq ?_
  refine runs_region ?_
  refine rl0 (gn rfl) rfl rfl (step_mv rfl rfl) trivial ?_
  refine rl1 (gn rfl) rfl rfl (step_callc rfl Try.func29 rfl rfl rfl (num_e (n + 2) (e1 (sealG b, false)) (e2 (sealG b, false)) s1 8 (by omega) rfl (rN (e1 (sealG b, false)) 8) rfl) (by repeat (first | exact .nil | refine .cons ?_ ?_ | exact VLe.refl _ | exact VLe.own_sl _ _ _ | exact VLe.fl_sl _ _ | exact VLe.nil_sl _ | exact VLe.nil_fl _ | refine VLe.agg ?_))) ⟨by repeat (first | exact uE | refine uN (by omega) ?_ | assumption | exact hd _ (by omega) | fail), trivial⟩ (by omega) ?_
  refine rl0 (gn rfl) rfl rfl (step_mv rfl rfl) trivial ?_
  refine rl1 (gn rfl) rfl rfl (step_callc rfl Try.func29 rfl rfl rfl (num_e (n + 2) (e2 (sealG b, false)) (e3 (sealG b, false)) s2 8 (by omega) rfl (rN (e2 (sealG b, false)) 8) rfl) (by repeat (first | exact .nil | refine .cons ?_ ?_ | exact VLe.refl _ | exact VLe.own_sl _ _ _ | exact VLe.fl_sl _ _ | exact VLe.nil_sl _ | exact VLe.nil_fl _ | refine VLe.agg ?_))) ⟨by repeat (first | exact uE | refine uN (by omega) ?_ | assumption | exact hd _ (by omega) | fail), trivial⟩ (by omega) ?_
  refine rl0 (gn rfl) rfl rfl (step_mv rfl rfl) trivial ?_
  refine rl1 (gn rfl) rfl rfl (step_callc rfl Try.func29 rfl rfl rfl (num_e (n + 2) (e3 (sealG b, false)) (e4 (sealG b, false)) s3 8 (by omega) rfl (rN (e3 (sealG b, false)) 8) rfl) (by repeat (first | exact .nil | refine .cons ?_ ?_ | exact VLe.refl _ | exact VLe.own_sl _ _ _ | exact VLe.fl_sl _ _ | exact VLe.nil_sl _ | exact VLe.nil_fl _ | refine VLe.agg ?_))) ⟨by repeat (first | exact uE | refine uN (by omega) ?_ | assumption | exact hd _ (by omega) | fail), trivial⟩ (by omega) ?_
  refine rl0 (gn rfl) rfl rfl (step_mv rfl rfl) trivial ?_
  refine rl1 (gn rfl) rfl rfl (step_callc rfl Try.func29 rfl rfl rfl (num_e (n + 2) (e4 (sealG b, false)) (e5 (sealG b, false)) s4 8 (by omega) rfl (rN (e4 (sealG b, false)) 8) rfl) (by repeat (first | exact .nil | refine .cons ?_ ?_ | exact VLe.refl _ | exact VLe.own_sl _ _ _ | exact VLe.fl_sl _ _ | exact VLe.nil_sl _ | exact VLe.nil_fl _ | refine VLe.agg ?_))) ⟨by repeat (first | exact uE | refine uN (by omega) ?_ | assumption | exact hd _ (by omega) | fail), trivial⟩ (by omega) ?_
  refine rl0 (gn rfl) rfl rfl (step_fieldAddr (off := 0) rfl (ev_mk rfl) Try.underlying29 rfl F.sz22 rfl) trivial ?_
  refine' rls (gn rfl) rfl (step_store1 rfl rfl rfl rfl F.one22 rfl rfl ?hl ?hc) ⟨?hb, trivial⟩ ?hk ?_
  case hb => repeat (first | exact uE | refine uN (by omega) ?_ | assumption | exact hd _ (by omega) | fail)
  case hl => first | exact Nat.le_of_ble_eq_true rfl | decide | (simp; done) | (simp; omega) | (first | rfl | (simp; done) | exact imR_len (pgI_len _))
  case hc => first | (simp only [List.set_cons_succ, List.set_cons_zero]; rfl) | rfl
  case hk => omega
  refine rl0 (gn rfl) rfl rfl (step_fieldAddr (off := 2) rfl (ev_mk rfl) Try.underlying29 rfl F.sz22 rfl) trivial ?_
  refine' rls (gn rfl) rfl (step_store1 rfl rfl rfl rfl F.one22 rfl rfl ?hl ?hc) ⟨?hb, trivial⟩ ?hk ?_
  case hb => repeat (first | exact uE | refine uN (by omega) ?_ | assumption | exact hd _ (by omega) | fail)
  case hl => first | exact Nat.le_of_ble_eq_true rfl | decide | (simp; done) | (simp; omega) | (first | rfl | (simp; done) | exact imR_len (pgI_len _))
  case hc => first | (simp only [List.set_cons_succ, List.set_cons_zero]; rfl) | rfl
  case hk => omega
  refine rl0 (gn rfl) rfl rfl (step_fieldAddr (off := 3) rfl (ev_mk rfl) Try.underlying29 rfl F.sz22 rfl) trivial ?_
  refine' rls (gn rfl) rfl (step_store1 rfl rfl rfl rfl F.one22 rfl rfl ?hl ?hc) ⟨?hb, trivial⟩ ?hk ?_
  case hb => repeat (first | exact uE | refine uN (by omega) ?_ | assumption | exact hd _ (by omega) | fail)
  case hl => first | exact Nat.le_of_ble_eq_true rfl | decide | (simp; done) | (simp; omega) | (first | rfl | (simp; done) | exact imR_len (pgI_len _))
  case hc => first | (simp only [List.set_cons_succ, List.set_cons_zero]; rfl) | rfl
  case hk => omega
  refine rl0 (gn rfl) rfl rfl (step_fieldAddr (off := 4) rfl (ev_mk rfl) Try.underlying29 rfl F.sz22 rfl) trivial ?_
  refine' rls (gn rfl) rfl (step_store1 rfl rfl rfl rfl F.one22 rfl rfl ?hl ?hc) ⟨?hb, trivial⟩ ?hk ?_
  case hb => repeat (first | exact uE | refine uN (by omega) ?_ | assumption | exact hd _ (by omega) | fail)
  case hl => first | exact Nat.le_of_ble_eq_true rfl | decide | (simp; done) | (simp; omega) | (first | rfl | (simp; done) | exact imR_len (pgI_len _))
  case hc => first | (simp only [List.set_cons_succ, List.set_cons_zero]; rfl) | rfl
  case hk => omega
  refine runsL_nil ?_
  refine runs_seq ?_
  refine runs_seq ?_
  refine runs_region ?_
  refine rl0 (gn rfl) rfl rfl (step_mv rfl rfl) trivial ?_
  refine rl1 (gn rfl) rfl rfl (step_callc rfl Try.func18 rfl rfl rfl (rr_e (n + 2) (e5 (sealG b, false)) (e6 (sealG b, false)) s5 hG.r rfl) (by repeat (first | exact .nil | refine .cons ?_ ?_ | exact VLe.refl _ | exact VLe.own_sl _ _ _ | exact VLe.fl_sl _ _ | exact VLe.nil_sl _ | exact VLe.nil_fl _ | refine VLe.agg ?_))) ⟨by repeat (first | exact uE | refine uN (by omega) ?_ | assumption | exact hd _ (by omega) | fail), trivial⟩ (by omega) ?_
  refine rl0 (gn rfl) rfl rfl (step_mv rfl rfl) trivial ?_
  refine rl0 (gn rfl) rfl rfl (step_extract rfl (ev_mk rfl) rfl) trivial ?_
  refine rl0 (gn rfl) rfl rfl (step_extract rfl (ev_mk rfl) rfl) trivial ?_
  refine rl0 (gn rfl) rfl rfl (step_fieldAddr (off := 5) rfl (ev_mk rfl) Try.underlying29 rfl F.sz25 rfl) trivial ?_
  refine' rls (gn rfl) rfl (step_storeS rfl rfl rfl rfl F.agg25 ?hm ?hl ?hc) ⟨?hb, trivial⟩ ?hk ?_
  case hb => repeat (first | exact uE | refine uN (by omega) ?_ | assumption | exact hd _ (by omega) | fail)
  case hm => first | rfl | (simp; done) | (first | rfl | (simp; done) | exact imR_len (pgI_len _))
  case hl => first | exact Nat.le_of_ble_eq_true rfl | decide | (simp; done) | (simp; omega) | (first | rfl | (simp; done) | exact imR_len (pgI_len _))
  case hc => rfl
  case hk => omega
  refine rl0 (gn rfl) rfl rfl (step_as rfl rfl) trivial ?_
  refine runsL_nil ?_
  refine runs_seq ?_
  refine runs_region ?_
  refine rl0 (gn rfl) rfl rfl (step_mv rfl rfl) trivial ?_
  refine rl0 (gn rfl) rfl rfl (step_unOp (c := .bool false) rfl (ev_mk rfl) (fun _ => rfl)) trivial ?_
  refine runsL_nil ?_
  refine runs_cond false (ev_mk rfl) (fun h_ => nomatch h_) (fun _ => ?_)
  refine runs_skip ?_
  refine runs_seq ?_
  refine runs_seq ?_
  refine runs_region ?_
  refine rl0 (gn rfl) rfl rfl (step_mv rfl rfl) trivial ?_
  refine rl1 (gn rfl) rfl rfl (step_callc rfl Try.func29 rfl rfl rfl (num_e (n + 2) (e6 (sealG b, false)) (e7 (sealG b, false)) s6 1 (by omega) rfl (eK (sealG b, false)) rfl) (by repeat (first | exact .nil | refine .cons ?_ ?_ | exact VLe.refl _ | exact VLe.own_sl _ _ _ | exact VLe.fl_sl _ _ | exact VLe.nil_sl _ | exact VLe.nil_fl _ | refine VLe.agg ?_))) ⟨by repeat (first | exact uE | refine uN (by omega) ?_ | assumption | exact hd _ (by omega) | fail), trivial⟩ (by omega) ?_
  refine rl0 (gn rfl) rfl rfl (step_conv_id rfl rfl Try.underlying22 Try.underlying3 (w64 (by exact ⟨Int.le_trans (by decide) vK.1, Int.le_of_lt (Int.lt_trans vK.2 (by decide))⟩))) trivial ?_
  refine rl0 (gn rfl) rfl rfl (step_mv rfl rfl) trivial ?_
  refine runsL_nil ?_
  refine runs_block ?_
  refine runs_growb (k := n + 0) (kn := n + 3) (q := 11) (e := 225) (by repeat (first | exact uE | refine uN (by omega) ?_ | assumption | exact hd _ (by omega) | fail)) rfl (by repeat (first | exact uE | refine uN (by omega) ?_ | assumption | exact hd _ (by omega) | fail)) (by omega) (by omega) ?_
  refine runs_growb (k := n + 0) (kn := n + 4) (q := 12) (e := 1) (by repeat (first | exact uE | refine uN (by omega) ?_ | assumption | exact hd _ (by omega) | fail)) rfl (by repeat (first | exact uE | refine uN (by omega) ?_ | assumption | exact hd _ (by omega) | fail)) (by omega) (by omega) ?_
  refine runs_loop (fun (ri_ : Nat) (st_ : Go.Vm.S) => ∃ (j : Nat) (m0 : Nat) (b0 : Nat → Box), (st_ = ⟨mk [(2, .ref (n + 0) 0), (3, .ref (n + 1) 0), (5, .ref (n + 2) 0), (46, .sc (.int .i64 (eK (sealG b, false)))), (47, .sc (.int .i64 j))], m0, b0⟩) ∧ (ri_ = (eK (sealG b, false)).toNat - j) ∧ (n + 5 ≤ m0) ∧ (∀ k_, k_ < n → b0 k_ = X0.bx k_) ∧ (b0 (n + 0) = .cells [.sc (.int .u64 (rN (e1 (sealG b, false)) 8)), .sc (.int .i64 (rN (sealG b, false) 1)), .sc (.int .u64 (rN (e2 (sealG b, false)) 8)), .sc (.int .u64 (rN (e3 (sealG b, false)) 8)), .sc (.int .u64 (rN (e4 (sealG b, false)) 8)), .sc (.int .u64 (rrV (e5 (sealG b, false))).id), .sc (.int .u64 (rrV (e5 (sealG b, false))).key), .sc (.int .u32 (rrV (e5 (sealG b, false))).x), .sc (.int .u32 (rrV (e5 (sealG b, false))).y), .sc (.string (rrV (e5 (sealG b, false))).val), .sc (.bool (rrV (e5 (sealG b, false))).gh), .own 225 ((pL (sealG b, false) j).map imR) (n + 3), .own 1 [] (n + 4)]) ∧ (b0 (n + 1) = .cells [.sc (.int .i64 0)]) ∧ (b0 (n + 2) = .cells [.sl 1 (bytesV (pS (sealG b, false) j).1), .sc (.bool (pS (sealG b, false) j).2)]) ∧ (b0 (n + 3) = .tail ((pL (sealG b, false) j).map imR).length) ∧ (b0 (n + 4) = .tail 0) ∧ ((j : Int) ≤ eK (sealG b, false))) ((eK (sealG b, false)).toNat - 0) ⟨_, sle ?_ (Nat.le_refl _), 0, _, _, rfl, rfl, ?_⟩ ?_
  · (repeat' (first | exact trivial | refine ⟨⟨_, rfl, ?_⟩, ?_⟩ | fail)); all_goals (repeat' (first | exact VLe.refl _ | exact VLe.own_sl _ _ _ | exact VLe.fl_sl _ _ | exact VLe.nil_sl _ | exact VLe.nil_fl _ | exact VLes.refl _ | exact .nil | refine VLe.tup ?_ | refine VLe.agg ?_ | refine .cons ?_ ?_ | (rw [Int.natCast_add]; exact VLe.refl _) | exact vle_int (by omega) | exact vle_bool (by first | rfl | assumption | (simp_all; done)) | fail))
  · exact ⟨by omega, (fun k_ hk_ => by repeat (first | exact rfl | refine uN (by omega) ?_ | assumption | fail)), by first | ((repeat (first | exact uE | assumption | refine uN (by omega) ?_ | fail)); done) | exact tl_eq (by repeat (first | exact uE | assumption | refine uN (by omega) ?_ | fail)) (by first | rfl | (simp [pL, aL]; done) | (simp [pL_len, aL_len]; done)), by first | ((repeat (first | exact uE | assumption | refine uN (by omega) ?_ | fail)); done) | exact tl_eq (by repeat (first | exact uE | assumption | refine uN (by omega) ?_ | fail)) (by first | rfl | (simp [pL, aL]; done) | (simp [pL_len, aL_len]; done)), by first | ((repeat (first | exact uE | assumption | refine uN (by omega) ?_ | fail)); done) | exact tl_eq (by repeat (first | exact uE | assumption | refine uN (by omega) ?_ | fail)) (by first | rfl | (simp [pL, aL]; done) | (simp [pL_len, aL_len]; done)), by first | ((repeat (first | exact uE | assumption | refine uN (by omega) ?_ | fail)); done) | exact tl_eq (by repeat (first | exact uE | assumption | refine uN (by omega) ?_ | fail)) (by first | rfl | (simp [pL, aL]; done) | (simp [pL_len, aL_len]; done)), by first | ((repeat (first | exact uE | assumption | refine uN (by omega) ?_ | fail)); done) | exact tl_eq (by repeat (first | exact uE | assumption | refine uN (by omega) ?_ | fail)) (by first | rfl | (simp [pL, aL]; done) | (simp [pL_len, aL_len]; done)), by omega⟩
  · rintro _ _ ⟨j, m0, b0, rfl, rfl, hm0, hf0, hB0_0, hB0_1, hB0_2, hB0_3, hB0_4, hF0_0⟩
    refine runs_know (fun hd0 => ?_)
    refine runs_bump 20 ?_
    simp only at hd0
    refine runs_seq ?_
    refine runs_region ?_
    refine rl_lss (gn rfl) rfl rfl rfl rfl rfl (fun h1 => ?_) (fun h1 => ?_)
    · skip
      refine runsL_nil ?_
      refine runs_seq ?_
      refine runs_cond true (ev_mk rfl) (fun _ => ?_) (fun h_ => nomatch h_)
      refine runs_skip ?_
      refine runs_seq ?_
      refine runs_block ?_
      refine runs_seq ?_
      refine runs_region ?_
      refine rl0 (gn rfl) rfl rfl (step_mv rfl rfl) trivial ?_
      refine rl1 (gn rfl) rfl rfl (step_callc rfl Try.func30 rfl rfl rfl (page_e (n + 2) (pS (sealG b, false) j) (pS (sealG b, false) (j + 1)) (sp j) rfl) (by repeat (first | exact .nil | refine .cons ?_ ?_ | exact VLe.refl _ | exact VLe.own_sl _ _ _ | exact VLe.fl_sl _ _ | exact VLe.nil_sl _ | exact VLe.nil_fl _ | refine VLe.agg ?_))) ⟨by repeat (first | exact uE | refine uN (by omega) ?_ | assumption | exact hd _ (by omega) | exact hd0 _ (by omega) | fail), trivial⟩ (by omega) ?_
      refine rl0 (gn rfl) rfl rfl (step_mv rfl rfl) trivial ?_
      refine rl0 (gn rfl) rfl rfl (step_extract rfl (ev_mk rfl) rfl) trivial ?_
      refine rl0 (gn rfl) rfl rfl (step_extract rfl (ev_mk rfl) rfl) trivial ?_
      refine rl1 (gn rfl) rfl rfl (step_allocc (k := m0 + 0) (zs := ((.int .i64 0) :: List.replicate 224 (.int .u8 0))) (cs := V.sc (.int .i64 0) :: List.replicate 224 (V.sc (.int .u8 0))) rfl F.zero51 (by first | rfl | simp) (by first | rfl | decide | simp) (by first | rfl | simp)) ⟨by repeat (first | exact uE | refine uN (by omega) ?_ | assumption | exact hd _ (by omega) | exact hd0 _ (by omega) | fail), trivial⟩ (by omega) ?_
      refine' rls (gn rfl) rfl (step_storeA rfl rfl rfl rfl F.agg51 ?hm ?hl) ⟨?hb, trivial⟩ ?hk ?_
      case hb => repeat (first | exact uE | refine uN (by omega) ?_ | assumption | exact hd _ (by omega) | exact hd0 _ (by omega) | fail)
      case hm => first | rfl | (simp; done) | (first | rfl | (simp; done) | exact imR_len (pgI_len _))
      case hl => first | rfl | (simp; done) | (first | rfl | (simp; done) | exact imR_len (pgI_len _))
      case hk => omega
      refine rl0 (gn rfl) rfl rfl (step_as rfl rfl) trivial ?_
      refine runsL_nil ?_
      refine runs_seq ?_
      refine runs_seq ?_
      refine runs_region ?_
      refine rl0 (gn rfl) rfl rfl (step_mv rfl rfl) trivial ?_
      refine rl0 (gn rfl) rfl rfl (step_unOp rfl (ev_mk rfl) (fun _ => rfl)) trivial ?_
      refine rl_know (d := 55) (c := false) rfl (by rw [hG.p j (by omega)]; rfl) ?_
      refine runsL_nil ?_
      refine runs_cond false (ev_mk rfl) (fun h_ => nomatch h_) (fun _ => ?_)
      refine runs_skip ?_
      refine runs_region ?_
      refine rl0 (gn rfl) rfl rfl (step_fieldAddr (off := 11) rfl (ev_mk rfl) Try.underlying29 rfl F.sz26 rfl) trivial ?_
      refine' rl0 (gn rfl) rfl rfl (step_load_one rfl (ev_mk rfl) F.one26 ?hv) ⟨?hb, trivial⟩ ?_
      case hb => repeat (first | exact uE | refine uN (by omega) ?_ | assumption | exact hd _ (by omega) | exact hd0 _ (by omega) | fail)
      case hv => rfl
      refine' rl0 (gn rfl) rfl rfl (step_load_all rfl rfl F.agg51 ?hl) ⟨?hb, trivial⟩ ?_
      case hb => repeat (first | exact uE | refine uN (by omega) ?_ | assumption | exact hd _ (by omega) | exact hd0 _ (by omega) | fail)
      case hl => first | rfl | (simp; done) | (first | rfl | (simp; done) | exact imR_len (pgI_len _))
      refine rl0 (gn rfl) rfl rfl (step_lit rfl Try.underlying26 F.sz51 F.zero51 (by first | rfl | simp) (by first | rfl | simp | decide) (by decide) rfl rfl (by first | (simp [V.cs, V.stor, oneV]; done) | (simp [V.cs, V.stor, oneV, imR, pgI_len, bV])) rfl) trivial ?_
      refine' rl1 (gn rfl) rfl rfl (step_append_own rfl rfl rfl Try.underlying26 ⟨_, Try.underlying26, fun k_ => by intro h_; cases h_⟩ F.el51 (ev_mk rfl) (ev_mk rfl) (gives_sl (.inr (.inl rfl))) ?hg) ⟨?hb, trivial⟩ (by omega) ?_
      case hb => repeat (first | exact uE | refine uN (by omega) ?_ | assumption | exact hd _ (by omega) | exact hd0 _ (by omega) | fail)
      case hg => first | (simp [pL_len, aL_len]; done) | (simp [pL_len, aL_len]; omega)
      refine rl0 (gn rfl) rfl rfl (step_fieldAddr (off := 11) rfl (ev_mk rfl) Try.underlying29 rfl F.sz26 rfl) trivial ?_
      refine' rls (gn rfl) rfl (step_store1 rfl rfl rfl rfl F.one26 rfl rfl ?hl ?hc) ⟨?hb, trivial⟩ ?hk ?_
      case hb => repeat (first | exact uE | refine uN (by omega) ?_ | assumption | exact hd _ (by omega) | exact hd0 _ (by omega) | fail)
      case hl => first | exact Nat.le_of_ble_eq_true rfl | decide | (simp; done) | (simp; omega) | (first | rfl | (simp; done) | exact imR_len (pgI_len _))
      case hc => first | (simp only [List.set_cons_succ, List.set_cons_zero]; rfl) | rfl
      case hk => omega
      refine runsL_nil ?_
      refine runs_region ?_
      refine rl0 (gn rfl) rfl rfl (step_add rfl (ev_mk rfl) (ev_mk rfl) (w64 (by omega))) trivial ?_
      refine rl0 (gn rfl) rfl rfl (step_mv rfl rfl) trivial ?_
      refine runsL_nil ?_
      have hq0_ : ((pL (sealG b, false) j).map imR) ++ [(V.sc (.int .i64 (pgI (pS (sealG b, false) j)).n) :: (pgI (pS (sealG b, false) j)).p.map bV)] = ((pL (sealG b, false) (j + 1)).map imR) := by (simp [pL] <;> rfl)
      refine ⟨_, _, ?_, sle ?_ (Nat.le_refl _), (j + 1), _, _, rfl, rfl, by omega, (fun k_ hk_ => by repeat (first | exact hf0 k_ hk_ | refine uN (by first | assumption | omega) ?_ | fail)), by first | ((repeat (first | exact uE | assumption | refine uN (by omega) ?_ | fail)); done) | exact tl_eq (by repeat (first | exact uE | assumption | refine uN (by omega) ?_ | fail)) (by first | rfl | (simp [pL, aL]; done) | (simp [pL_len, aL_len]; done)) | (rw [← hq0_]; (repeat (first | exact uE | assumption | refine uN (by omega) ?_ | fail)); done), by first | ((repeat (first | exact uE | assumption | refine uN (by omega) ?_ | fail)); done) | exact tl_eq (by repeat (first | exact uE | assumption | refine uN (by omega) ?_ | fail)) (by first | rfl | (simp [pL, aL]; done) | (simp [pL_len, aL_len]; done)) | (rw [← hq0_]; (repeat (first | exact uE | assumption | refine uN (by omega) ?_ | fail)); done), by first | ((repeat (first | exact uE | assumption | refine uN (by omega) ?_ | fail)); done) | exact tl_eq (by repeat (first | exact uE | assumption | refine uN (by omega) ?_ | fail)) (by first | rfl | (simp [pL, aL]; done) | (simp [pL_len, aL_len]; done)) | (rw [← hq0_]; (repeat (first | exact uE | assumption | refine uN (by omega) ?_ | fail)); done), by first | ((repeat (first | exact uE | assumption | refine uN (by omega) ?_ | fail)); done) | exact tl_eq (by repeat (first | exact uE | assumption | refine uN (by omega) ?_ | fail)) (by first | rfl | (simp [pL, aL]; done) | (simp [pL_len, aL_len]; done)) | (rw [← hq0_]; (repeat (first | exact uE | assumption | refine uN (by omega) ?_ | fail)); done), by first | ((repeat (first | exact uE | assumption | refine uN (by omega) ?_ | fail)); done) | exact tl_eq (by repeat (first | exact uE | assumption | refine uN (by omega) ?_ | fail)) (by first | rfl | (simp [pL, aL]; done) | (simp [pL_len, aL_len]; done)) | (rw [← hq0_]; (repeat (first | exact uE | assumption | refine uN (by omega) ?_ | fail)); done), by omega⟩
      · omega
      · (repeat' (first | exact trivial | refine ⟨⟨_, rfl, ?_⟩, ?_⟩ | fail)); all_goals (repeat' (first | exact VLe.refl _ | exact VLe.own_sl _ _ _ | exact VLe.fl_sl _ _ | exact VLe.nil_sl _ | exact VLe.nil_fl _ | exact VLes.refl _ | exact .nil | refine VLe.tup ?_ | refine VLe.agg ?_ | refine .cons ?_ ?_ | (rw [Int.natCast_add]; exact VLe.refl _) | exact vle_int (by omega) | exact vle_bool (by first | rfl | assumption | (simp_all; done)) | (rw [← hq0_]; exact VLe.refl _) | (rw [hq0_]; exact VLe.refl _) | fail))
    · skip
      obtain rfl : j = (eK (sealG b, false)).toNat := by omega
      refine runsL_nil ?_
      refine runs_seq ?_
      refine runs_cond false (ev_mk rfl) (fun h_ => nomatch h_) (fun _ => ?_)
      refine runs_exit ?_
      refine runs_seq ?_
      refine runs_seq ?_
      refine runs_region ?_
      refine rl0 (gn rfl) rfl rfl (step_mv rfl rfl) trivial ?_
      refine rl1 (gn rfl) rfl rfl (step_callc rfl Try.func29 rfl rfl rfl (num_e (n + 2) (e8 (sealG b, false)) (aS (sealG b, false) 0) (sp _) 1 (by omega) rfl (eM (sealG b, false)) rfl) (by repeat (first | exact .nil | refine .cons ?_ ?_ | exact VLe.refl _ | exact VLe.own_sl _ _ _ | exact VLe.fl_sl _ _ | exact VLe.nil_sl _ | exact VLe.nil_fl _ | refine VLe.agg ?_))) ⟨by repeat (first | exact uE | refine uN (by omega) ?_ | assumption | exact hd _ (by omega) | exact hd0 _ (by omega) | fail), trivial⟩ (by omega) ?_
      refine rl0 (gn rfl) rfl rfl (step_conv_id rfl rfl Try.underlying22 Try.underlying3 (w64 (by exact ⟨Int.le_trans (by decide) vM.1, Int.le_of_lt (Int.lt_trans vM.2 (by decide))⟩))) trivial ?_
      refine rl0 (gn rfl) rfl rfl (step_mv rfl rfl) trivial ?_
      refine runsL_nil ?_
      refine runs_block ?_
      refine runs_loop (fun (ri_ : Nat) (st_ : Go.Vm.S) => ∃ (w : Nat) (m1 : Nat) (b1 : Nat → Box), (st_ = ⟨mk [(2, .ref (n + 0) 0), (3, .ref (n + 1) 0), (5, .ref (n + 2) 0), (66, .sc (.int .i64 (eM (sealG b, false)))), (67, .sc (.int .i64 w))], m1, b1⟩) ∧ (ri_ = (eM (sealG b, false)).toNat - w) ∧ (m0 + 0 ≤ m1) ∧ (∀ k_, k_ < n → b1 k_ = X0.bx k_) ∧ (b1 (n + 0) = .cells [.sc (.int .u64 (rN (e1 (sealG b, false)) 8)), .sc (.int .i64 (rN (sealG b, false) 1)), .sc (.int .u64 (rN (e2 (sealG b, false)) 8)), .sc (.int .u64 (rN (e3 (sealG b, false)) 8)), .sc (.int .u64 (rN (e4 (sealG b, false)) 8)), .sc (.int .u64 (rrV (e5 (sealG b, false))).id), .sc (.int .u64 (rrV (e5 (sealG b, false))).key), .sc (.int .u32 (rrV (e5 (sealG b, false))).x), .sc (.int .u32 (rrV (e5 (sealG b, false))).y), .sc (.string (rrV (e5 (sealG b, false))).val), .sc (.bool (rrV (e5 (sealG b, false))).gh), .own 225 ((pL (sealG b, false) (eK (sealG b, false)).toNat).map imR) (n + 3), .own 1 ((aL (sealG b, false) w).map acR) (n + 4)]) ∧ (b1 (n + 1) = .cells [.sc (.int .i64 0)]) ∧ (b1 (n + 2) = .cells [.sl 1 (bytesV (aS (sealG b, false) w).1), .sc (.bool (aS (sealG b, false) w).2)]) ∧ (b1 (n + 3) = .tail ((pL (sealG b, false) (eK (sealG b, false)).toNat).map imR).length) ∧ (b1 (n + 4) = .tail ((aL (sealG b, false) w).map acR).length) ∧ ((w : Int) ≤ eM (sealG b, false))) ((eM (sealG b, false)).toNat - 0) ⟨_, sle ?_ (Nat.le_refl _), 0, _, _, rfl, rfl, ?_⟩ ?_
      · (repeat' (first | exact trivial | refine ⟨⟨_, rfl, ?_⟩, ?_⟩ | fail)); all_goals (repeat' (first | exact VLe.refl _ | exact VLe.own_sl _ _ _ | exact VLe.fl_sl _ _ | exact VLe.nil_sl _ | exact VLe.nil_fl _ | exact VLes.refl _ | exact .nil | refine VLe.tup ?_ | refine VLe.agg ?_ | refine .cons ?_ ?_ | (rw [Int.natCast_add]; exact VLe.refl _) | exact vle_int (by omega) | exact vle_bool (by first | rfl | assumption | (simp_all; done)) | fail))
      · exact ⟨by omega, (fun k_ hk_ => by repeat (first | exact rfl | refine uN (by omega) ?_ | assumption | exact hf0 _ (by omega) | fail)), by first | ((repeat (first | exact uE | assumption | refine uN (by omega) ?_ | fail)); done) | exact tl_eq (by repeat (first | exact uE | assumption | refine uN (by omega) ?_ | fail)) (by first | rfl | (simp [pL, aL]; done) | (simp [pL_len, aL_len]; done)), by first | ((repeat (first | exact uE | assumption | refine uN (by omega) ?_ | fail)); done) | exact tl_eq (by repeat (first | exact uE | assumption | refine uN (by omega) ?_ | fail)) (by first | rfl | (simp [pL, aL]; done) | (simp [pL_len, aL_len]; done)), by first | ((repeat (first | exact uE | assumption | refine uN (by omega) ?_ | fail)); done) | exact tl_eq (by repeat (first | exact uE | assumption | refine uN (by omega) ?_ | fail)) (by first | rfl | (simp [pL, aL]; done) | (simp [pL_len, aL_len]; done)), by first | ((repeat (first | exact uE | assumption | refine uN (by omega) ?_ | fail)); done) | exact tl_eq (by repeat (first | exact uE | assumption | refine uN (by omega) ?_ | fail)) (by first | rfl | (simp [pL, aL]; done) | (simp [pL_len, aL_len]; done)), by first | ((repeat (first | exact uE | assumption | refine uN (by omega) ?_ | fail)); done) | exact tl_eq (by repeat (first | exact uE | assumption | refine uN (by omega) ?_ | fail)) (by first | rfl | (simp [pL, aL]; done) | (simp [pL_len, aL_len]; done)), by omega⟩
      · rintro _ _ ⟨w, m1, b1, rfl, rfl, hm1, hf1, hB1_0, hB1_1, hB1_2, hB1_3, hB1_4, hF1_0⟩
        refine runs_know (fun hd1 => ?_)
        refine runs_bump 20 ?_
        simp only at hd1
        refine runs_seq ?_
        refine runs_region ?_
        refine rl_lss (gn rfl) rfl rfl rfl rfl rfl (fun h2 => ?_) (fun h2 => ?_)
        · skip
          refine runsL_nil ?_
          refine runs_seq ?_
          refine runs_cond true (ev_mk rfl) (fun _ => ?_) (fun h_ => nomatch h_)
          refine runs_skip ?_
          refine runs_seq ?_
          refine runs_block ?_
          refine runs_draw (by kernel_rfl) (by kernel_rfl) (by kernel_rfl) ?_
          refine dl0 (gn rfl) rfl rfl (step_fieldAddr (off := 12) rfl (ev_mk rfl) Try.underlying29 rfl F.sz27 rfl) trivial ?_
          refine' dl0 (gn rfl) rfl rfl (step_load_one rfl (ev_mk rfl) F.one27 ?hv) ⟨?hb, trivial⟩ ?_
          case hb => repeat (first | exact uE | refine uN (by omega) ?_ | assumption | exact hd _ (by omega) | exact hd0 _ (by omega) | exact hd1 _ (by omega) | fail)
          case hv => rfl
          refine dl0 (gn rfl) rfl rfl (step_mv rfl rfl) trivial ?_
          refine dl1 (gn rfl) rfl rfl (step_callc rfl Try.func29 rfl rfl rfl (num_e (n + 2) (aS (sealG b, false) w) (aS (sealG b, false) (w + 1)) (sa w) 8 (by omega) rfl (rN (aS (sealG b, false) w) 8) rfl) (by repeat (first | exact .nil | refine .cons ?_ ?_ | exact VLe.refl _ | exact VLe.own_sl _ _ _ | exact VLe.fl_sl _ _ | exact VLe.nil_sl _ | exact VLe.nil_fl _ | refine VLe.agg ?_))) ⟨by repeat (first | exact uE | refine uN (by omega) ?_ | assumption | exact hd _ (by omega) | exact hd0 _ (by omega) | exact hd1 _ (by omega) | fail), trivial⟩ (by omega) ?_
          refine dl0 (gn rfl) rfl rfl (step_lit rfl Try.underlying27 F.sz22 F.zero22 (by first | rfl | simp) (by first | rfl | simp | decide) (by decide) rfl rfl (by first | (simp [V.cs, V.stor, oneV]; done) | (simp [V.cs, V.stor, oneV, imR, pgI_len, bV])) rfl) trivial ?_
          refine' dl1 (gn rfl) rfl rfl (step_append_own rfl rfl rfl Try.underlying27 ⟨_, Try.underlying27, fun k_ => by intro h_; cases h_⟩ F.el22 (ev_mk rfl) (ev_mk rfl) (gives_sl (.inr (.inl rfl))) ?hg) ⟨?hb, trivial⟩ (by omega) ?_
          case hb => repeat (first | exact uE | refine uN (by omega) ?_ | assumption | exact hd _ (by omega) | exact hd0 _ (by omega) | exact hd1 _ (by omega) | fail)
          case hg => first | (simp [pL_len, aL_len]; done) | (simp [pL_len, aL_len]; omega)
          refine dl0 (gn rfl) rfl rfl (step_fieldAddr (off := 12) rfl (ev_mk rfl) Try.underlying29 rfl F.sz27 rfl) trivial ?_
          refine' dls (gn rfl) rfl (step_store1 rfl rfl rfl rfl F.one27 rfl rfl ?hl ?hc) ⟨?hb, trivial⟩ ?hk ?_
          case hb => repeat (first | exact uE | refine uN (by omega) ?_ | assumption | exact hd _ (by omega) | exact hd0 _ (by omega) | exact hd1 _ (by omega) | fail)
          case hl => first | exact Nat.le_of_ble_eq_true rfl | decide | (simp; done) | (simp; omega) | (first | rfl | (simp; done) | exact imR_len (pgI_len _))
          case hc => first | (simp only [List.set_cons_succ, List.set_cons_zero]; rfl) | rfl
          case hk => omega
          refine dlnil ?_ ?_
          · repeat' (first | exact trivial | exact .inr (ap0 _ _ _ _) | exact .inr (ap2 _ _ _ _) | exact .inr (ap3 _ _ _ _) | exact .inr ⟨by first | (simp; done) | (simp; omega), by first | (simp; done) | (simp; omega)⟩ | exact .inl (by kernel_rfl) | refine ⟨?_, ?_⟩ | fail)
          refine runs_region ?_
          refine rl0 (gn rfl) rfl rfl (step_add rfl (ev_mk rfl) (ev_mk rfl) (w64 (by omega))) trivial ?_
          refine rl0 (gn rfl) rfl rfl (step_mv rfl rfl) trivial ?_
          refine runsL_nil ?_
          have hq0_ : ((aL (sealG b, false) w).map acR) ++ [[V.sc (.int .u64 (rN (aS (sealG b, false) w) 8))]] = ((aL (sealG b, false) (w + 1)).map acR) := by (simp [aL] <;> rfl)
          refine ⟨_, _, ?_, sle ?_ (Nat.le_refl _), (w + 1), _, _, rfl, rfl, by omega, (fun k_ hk_ => by repeat (first | exact hf1 k_ hk_ | exact hf0 k_ hk_ | refine uN (by first | assumption | omega) ?_ | fail)), by first | ((repeat (first | exact uE | assumption | refine uN (by omega) ?_ | fail)); done) | exact tl_eq (by repeat (first | exact uE | assumption | refine uN (by omega) ?_ | fail)) (by first | rfl | (simp [pL, aL]; done) | (simp [pL_len, aL_len]; done)) | (rw [← hq0_]; (repeat (first | exact uE | assumption | refine uN (by omega) ?_ | fail)); done), by first | ((repeat (first | exact uE | assumption | refine uN (by omega) ?_ | fail)); done) | exact tl_eq (by repeat (first | exact uE | assumption | refine uN (by omega) ?_ | fail)) (by first | rfl | (simp [pL, aL]; done) | (simp [pL_len, aL_len]; done)) | (rw [← hq0_]; (repeat (first | exact uE | assumption | refine uN (by omega) ?_ | fail)); done), by first | ((repeat (first | exact uE | assumption | refine uN (by omega) ?_ | fail)); done) | exact tl_eq (by repeat (first | exact uE | assumption | refine uN (by omega) ?_ | fail)) (by first | rfl | (simp [pL, aL]; done) | (simp [pL_len, aL_len]; done)) | (rw [← hq0_]; (repeat (first | exact uE | assumption | refine uN (by omega) ?_ | fail)); done), by first | ((repeat (first | exact uE | assumption | refine uN (by omega) ?_ | fail)); done) | exact tl_eq (by repeat (first | exact uE | assumption | refine uN (by omega) ?_ | fail)) (by first | rfl | (simp [pL, aL]; done) | (simp [pL_len, aL_len]; done)) | (rw [← hq0_]; (repeat (first | exact uE | assumption | refine uN (by omega) ?_ | fail)); done), by first | ((repeat (first | exact uE | assumption | refine uN (by omega) ?_ | fail)); done) | exact tl_eq (by repeat (first | exact uE | assumption | refine uN (by omega) ?_ | fail)) (by first | rfl | (simp [pL, aL]; done) | (simp [pL_len, aL_len]; done)) | (rw [← hq0_]; (repeat (first | exact uE | assumption | refine uN (by omega) ?_ | fail)); done), by omega⟩
          · omega
          · (repeat' (first | exact trivial | refine ⟨⟨_, rfl, ?_⟩, ?_⟩ | fail)); all_goals (repeat' (first | exact VLe.refl _ | exact VLe.own_sl _ _ _ | exact VLe.fl_sl _ _ | exact VLe.nil_sl _ | exact VLe.nil_fl _ | exact VLes.refl _ | exact .nil | refine VLe.tup ?_ | refine VLe.agg ?_ | refine .cons ?_ ?_ | (rw [Int.natCast_add]; exact VLe.refl _) | exact vle_int (by omega) | exact vle_bool (by first | rfl | assumption | (simp_all; done)) | (rw [← hq0_]; exact VLe.refl _) | (rw [hq0_]; exact VLe.refl _) | fail))
        · skip
          obtain rfl : w = (eM (sealG b, false)).toNat := by omega
          refine runsL_nil ?_
          refine runs_seq ?_
          refine runs_cond false (ev_mk rfl) (fun h_ => nomatch h_) (fun _ => ?_)
          refine runs_exit ?_
          refine runs_seq ?_
          refine runs_seq ?_
          refine runs_region ?_
          refine rl0 (gn rfl) rfl rfl (step_mv rfl rfl) trivial ?_
          refine rl0 (gn rfl) rfl rfl (step_callc rfl Try.func31 rfl rfl rfl (right_c (n + 2) (e9 (sealG b, false)).1 (e9 (sealG b, false)).2) (by repeat (first | exact .nil | refine .cons ?_ ?_ | exact VLe.refl _ | exact VLe.own_sl _ _ _ | exact VLe.fl_sl _ _ | exact VLe.nil_sl _ | exact VLe.nil_fl _ | refine VLe.agg ?_))) ⟨by repeat (first | exact uE | refine uN (by omega) ?_ | assumption | exact hd _ (by omega) | exact hd0 _ (by omega) | exact hd1 _ (by omega) | fail), trivial⟩ ?_
          refine rl0 (gn rfl) rfl rfl (step_unOp rfl (ev_mk rfl) (fun _ => rfl)) trivial ?_
          refine rl_know (d := 79) (c := false) rfl (by rw [hG.e]; rfl) ?_
          refine rl0 (gn rfl) rfl rfl (step_mv rfl rfl) trivial ?_
          refine rl0 (gy rfl rfl rfl rfl rfl rfl) rfl rfl (step_mv rfl rfl) trivial ?_
          refine rl0 (gy rfl rfl rfl rfl rfl rfl) rfl rfl (step_callc rfl Try.func32 rfl rfl rfl (left_c (n + 2) (e9 (sealG b, false)).1 (e9 (sealG b, false)).2) (by repeat (first | exact .nil | refine .cons ?_ ?_ | exact VLe.refl _ | exact VLe.own_sl _ _ _ | exact VLe.fl_sl _ _ | exact VLe.nil_sl _ | exact VLe.nil_fl _ | refine VLe.agg ?_))) ⟨by repeat (first | exact uE | refine uN (by omega) ?_ | assumption | exact hd _ (by omega) | exact hd0 _ (by omega) | exact hd1 _ (by omega) | fail), trivial⟩ ?_
          refine rl_gtr (gy rfl rfl rfl rfl rfl rfl) rfl rfl rfl rfl rfl (fun h3 => ?_) (fun h3 => ?_)
          · exact False.elim (by (have h_ := hG.l; omega))
          refine rl0 (gn rfl) rfl rfl (step_pick rfl (ev_mk rfl) (ev_mk rfl)) trivial ?_
          refine rl0 (gn rfl) rfl rfl (step_mv rfl rfl) trivial ?_
          refine' rl0 (gy rfl rfl rfl rfl rfl rfl) rfl rfl (step_load_all rfl rfl F.agg29 ?hl) ⟨?hb, trivial⟩ ?_
          case hb => repeat (first | exact uE | refine uN (by omega) ?_ | assumption | exact hd _ (by omega) | exact hd0 _ (by omega) | exact hd1 _ (by omega) | fail)
          case hl => first | rfl | (simp; done) | (first | rfl | (simp; done) | exact imR_len (pgI_len _))
          refine rl0 (gy rfl rfl rfl rfl rfl rfl) rfl rfl (step_callc rfl Try.func11 rfl rfl rfl (check_c (gEn (sealG b, false)) (by rw [show (gEn (sealG b, false)).pages = pL (sealG b, false) (eK (sealG b, false)).toNat from rfl, show (gEn (sealG b, false)).act = aL (sealG b, false) (eM (sealG b, false)).toNat from rfl, pL_len, aL_len]; omega) (pL_pg _ _)) (by repeat (first | exact .nil | refine .cons ?_ ?_ | exact VLe.refl _ | exact VLe.own_sl _ _ _ | exact VLe.fl_sl _ _ | exact VLe.nil_sl _ | exact VLe.nil_fl _ | refine VLe.agg ?_))) trivial ?_
          refine rl_neq (gy rfl rfl rfl rfl rfl rfl) rfl rfl rfl rfl rfl (fun h4 => ?_) (fun h4 => ?_)
          · exact False.elim (by (have h_ := hG.c; omega))
          refine rl0 (gn rfl) rfl rfl (step_pick rfl (ev_mk rfl) (ev_mk rfl)) trivial ?_
          refine runsL_nil ?_
          refine runs_cond false (ev_mk rfl) (fun h_ => nomatch h_) (fun _ => ?_)
          refine runs_skip ?_
          refine runs_seq ?_
          refine runs_region ?_
          refine' rl0 (gn rfl) rfl rfl (step_load_all rfl rfl F.agg29 ?hl) ⟨?hb, trivial⟩ ?_
          case hb => repeat (first | exact uE | refine uN (by omega) ?_ | assumption | exact hd _ (by omega) | exact hd0 _ (by omega) | exact hd1 _ (by omega) | fail)
          case hl => first | rfl | (simp; done) | (first | rfl | (simp; done) | exact imR_len (pgI_len _))
          refine' rls (gn rfl) rfl (step_storeA rfl rfl rfl rfl F.agg29 ?hm ?hl) ⟨?hb, trivial⟩ ?hk ?_
          case hb => repeat (first | exact uE | refine uN (by omega) ?_ | assumption | exact hd _ (by omega) | exact hd0 _ (by omega) | exact hd1 _ (by omega) | fail)
          case hm => first | rfl | (simp; done) | (first | rfl | (simp; done) | exact imR_len (pgI_len _))
          case hl => first | rfl | (simp; done) | (first | rfl | (simp; done) | exact imR_len (pgI_len _))
          case hk => omega
          refine' rls (gn rfl) rfl (step_store1 rfl rfl rfl rfl F.one33 rfl rfl ?hl ?hc) ⟨?hb, trivial⟩ ?hk ?_
          case hb => repeat (first | exact uE | refine uN (by omega) ?_ | assumption | exact hd _ (by omega) | exact hd0 _ (by omega) | exact hd1 _ (by omega) | fail)
          case hl => first | exact Nat.le_of_ble_eq_true rfl | decide | (simp; done) | (simp; omega) | (first | rfl | (simp; done) | exact imR_len (pgI_len _))
          case hc => first | (simp only [List.set_cons_succ, List.set_cons_zero]; rfl) | rfl
          case hk => omega
          refine runsL_nil ?_
          refine runs_ret ?_
          refine ⟨rfl, _, _, d28_0 (n + 1) (n + 0), (by intro p_ hp_; simp only [List.mem_cons, List.not_mem_nil, or_false] at hp_; (first | (cases hp_; done) | (rcases hp_ with rfl | rfl) | rcases hp_ with rfl) <;> (repeat (first | exact uE | refine uN (by omega) ?_ | assumption | exact hd _ (by omega) | exact hd0 _ (by omega) | exact hd1 _ (by omega) | fail))), (by intro p_ hp_; first | (cases hp_; done) | (simp only [List.mem_cons, List.not_mem_nil, or_false] at hp_; (first | (rcases hp_ with rfl | rfl) | rcases hp_ with rfl) <;> (simp only; omega))), ?_⟩
          simp only [upds]
          refine fin_mkg (resc rfl (by repeat (first | exact uE | refine uN (by omega) ?_ | assumption | exact hd _ (by omega) | exact hd0 _ (by omega) | exact hd1 _ (by omega) | fail)) F.agg29 (by first | rfl | (simp; done) | (first | rfl | (simp; done) | exact imR_len (pgI_len _))) (resc1 rfl (by repeat (first | exact uE | refine uN (by omega) ?_ | assumption | exact hd _ (by omega) | exact hd0 _ (by omega) | exact hd1 _ (by omega) | fail)) F.one33 rfl res0)) ?_ ?_ ?_ ?_ ?_
          · (repeat' (first | exact VLe.refl _ | exact VLe.own_sl _ _ _ | exact VLe.fl_sl _ _ | exact VLe.nil_sl _ | exact VLe.nil_fl _ | exact VLes.refl _ | exact .nil | refine VLe.tup ?_ | refine VLe.agg ?_ | refine .cons ?_ ?_ | (rw [Int.natCast_add]; exact VLe.refl _) | exact vle_int (by omega) | exact vle_bool (by first | rfl | assumption | (simp_all; done)) | fail))
          · first | (exact ⟨bd_en _ _, trivial, trivial⟩; done) | (repeat (first | exact trivial | assumption | omega | (refine bdR_map (fun _ => ?_)) | (refine bdL_map (fun _ => ?_)) | refine ⟨?_, ?_⟩ | fail))
          · intro k_ hk_; exact ble (by repeat (first | exact rfl | refine uN (by omega) ?_ | assumption | exact hf0 _ (by omega) | exact hf1 _ (by omega) | fail))
          · intro p hp; cases hp
          · first | (exact ⟨bd_en _ _, trivial, trivial⟩; done) | (repeat (first | exact trivial | assumption | omega | (refine bdR_map (fun _ => ?_)) | (refine bdL_map (fun _ => ?_)) | refine ⟨?_, ?_⟩ | fail))
set_option maxRecDepth 100000 in
set_option maxHeartbeats 4000000 in
theorem get_f1 (b : List Int) (hb : Byts b) (hl : b.length ≤ 1000000) (hs : sealOK b = true) (hr : rrOK (e5 (sealG b, false)) = false) : Does Try.prog 16 [.sl 1 (bytesV b)] [] [] (.tup [.agg (enC zEn), .sc (.int .i64 3)]) := by
  refine does_defer 40 Try.func16 rfl rfl rfl (fun n X0 hd hpre hup hvs => ?_)
  have s0 : okS (sealG b, false) := ⟨sealG_byts hb, Nat.le_trans (sealG_len b) (by omega)⟩
  have s1 : okS (e1 (sealG b, false)) := okS_rS s0 1
  have s2 : okS (e2 (sealG b, false)) := okS_rS s1 8
  have s3 : okS (e3 (sealG b, false)) := okS_rS s2 8
  have s4 : okS (e4 (sealG b, false)) := okS_rS s3 8
  have s5 : okS (e5 (sealG b, false)) := okS_rS s4 8
  have s6 : okS (e6 (sealG b, false)) := okS_q6 s5
  have sp := ok_pS s0
  have sa := ok_aS s0
  have v0 := rN_1 s0
  have vK : 0 ≤ eK (sealG b, false) ∧ eK (sealG b, false) < 256 := rN_1 s6
  have vM : 0 ≤ eM (sealG b, false) ∧ eM (sealG b, false) < 256 := rN_1 (sp _)
  refine runs_seq ?_
  refine runs_region ?_
  refine rl1 (gn rfl) rfl rfl (step_allocc (k := n + 0) (zs := [.int .u64 0, .int .i64 0, .int .u64 0, .int .u64 0, .int .u64 0, .int .u64 0, .int .u64 0, .int .u32 0, .int .u32 0, .string ByteArray.empty, .bool false, .slice none 0 0, .slice none 0 0]) (cs := [.sc (.int .u64 0), .sc (.int .i64 0), .sc (.int .u64 0), .sc (.int .u64 0), .sc (.int .u64 0), .sc (.int .u64 0), .sc (.int .u64 0), .sc (.int .u32 0), .sc (.int .u32 0), .sc (.string ByteArray.empty), .sc (.bool false), .sc (.slice none 0 0), .sc (.slice none 0 0)]) rfl F.zero29 (by first | rfl | simp) (by first | rfl | decide | simp) (by first | rfl | simp)) ⟨by repeat (first | exact uE | refine uN (by omega) ?_ | assumption | exact hd _ (by omega) | fail), trivial⟩ (by omega) ?_
  refine rl1 (gn rfl) rfl rfl (step_allocc (k := n + 1) (zs := [.int .i64 0]) (cs := [.sc (.int .i64 0)]) rfl F.zero33 (by first | rfl | simp) (by first | rfl | decide | simp) (by first | rfl | simp)) ⟨by repeat (first | exact uE | refine uN (by omega) ?_ | assumption | exact hd _ (by omega) | fail), trivial⟩ (by omega) ?_
  refine runsL_nil ?_
  refine runs_seq ?_
  refine runs_region ?_
  refine rl0 (gn rfl) rfl rfl (step_mv rfl rfl) trivial ?_
  refine rl0 (gn rfl) rfl rfl (step_callc rfl Try.func27 rfl rfl rfl (sget_c b hb (by omega)) (by repeat (first | exact .nil | refine .cons ?_ ?_ | exact VLe.refl _ | exact VLe.own_sl _ _ _ | exact VLe.fl_sl _ _ | exact VLe.nil_sl _ | exact VLe.nil_fl _ | refine VLe.agg ?_))) trivial ?_
  refine rl0 (gn rfl) rfl rfl (step_mv rfl rfl) trivial ?_
  refine rl0 (gn rfl) rfl rfl (step_extract rfl (ev_mk rfl) rfl) trivial ?_
  refine rl0 (gn rfl) rfl rfl (step_extract rfl (ev_mk rfl) rfl) trivial ?_
  refine rl0 (gn rfl) rfl rfl (step_as rfl rfl) trivial ?_
  refine rl0 (gn rfl) rfl rfl (step_as rfl rfl) trivial ?_
  refine runsL_nil ?_
  refine runs_seq ?_
  refine runs_seq ?_
  refine runs_region ?_
  refine rl0 (gn rfl) rfl rfl (step_mv rfl rfl) trivial ?_
  refine rl0 (gn rfl) rfl rfl (step_unOp rfl (ev_mk rfl) (fun _ => rfl)) trivial ?_
  refine rl_know (d := 14) (c := false) rfl (by rw [hs]; rfl) ?_
  refine runsL_nil ?_
  refine runs_cond false (ev_mk rfl) (fun h_ => nomatch h_) (fun _ => ?_)
  refine runs_skip ?_
  refine runs_seq ?_
  refine runs_region ?_
  refine' rls (gn rfl) rfl (step_store1 rfl rfl rfl rfl F.one33 rfl rfl ?hl ?hc) ⟨?hb, trivial⟩ ?hk ?_
  case hb => repeat (first | exact uE | refine uN (by omega) ?_ | assumption | exact hd _ (by omega) | fail)
  case hl => first | exact Nat.le_of_ble_eq_true rfl | decide | (simp; done) | (simp; omega) | (first | rfl | (simp; done) | exact imR_len (pgI_len _))
  case hc => first | (simp only [List.set_cons_succ, List.set_cons_zero]; rfl) | rfl
  case hk => omega
  refine runsL_nil ?_
  refine runs_defer rfl rfl rfl rfl rfl rfl rfl rfl Try.func28 rfl rfl (fun B' => ?_)
  refine runs_seq ?_
  refine runs_region ?_
  refine rl0 (gn rfl) rfl rfl (step_mv rfl rfl) trivial ?_
  refine rl1 (gn rfl) rfl rfl (step_callc rfl Try.func19 rfl rfl rfl (read_c (sealG b) (n + 2) (by have := sealG_len b; omega)) (by repeat (first | exact .nil | refine .cons ?_ ?_ | exact VLe.refl _ | exact VLe.own_sl _ _ _ | exact VLe.fl_sl _ _ | exact VLe.nil_sl _ | exact VLe.nil_fl _ | refine VLe.agg ?_))) ⟨by repeat (first | exact uE | refine uN (by omega) ?_ | assumption | exact hd _ (by omega) | fail), trivial⟩ (by omega) ?_
  refine rl0 (gn rfl) rfl rfl (step_as rfl rfl) trivial ?_
  refine runsL_nil ?_
  refine runs_seq ?_
  refine runs_region ?_
  refine rl0 (gn rfl) rfl rfl (step_mv rfl rfl) trivial ?_
  refine rl1 (gn rfl) rfl rfl (step_callc rfl Try.func29 rfl rfl rfl (num_e (n + 2) (sealG b, false) (e1 (sealG b, false)) s0 1 (by omega) rfl (rN (sealG b, false) 1) rfl) (by repeat (first | exact .nil | refine .cons ?_ ?_ | exact VLe.refl _ | exact VLe.own_sl _ _ _ | exact VLe.fl_sl _ _ | exact VLe.nil_sl _ | exact VLe.nil_fl _ | refine VLe.agg ?_))) ⟨by repeat (first | exact uE | refine uN (by omega) ?_ | assumption | exact hd _ (by omega) | fail), trivial⟩ (by omega) ?_
  refine rl0 (gn rfl) rfl rfl (step_conv_id rfl rfl Try.underlying22 Try.underlying3 (w64 (by exact ⟨Int.le_trans (by decide) v0.1, Int.le_of_lt (Int.lt_trans v0.2 (by decide))⟩))) trivial ?_
  refine rl0 (gn rfl) rfl rfl (step_fieldAddr (off := 1) rfl (ev_mk rfl) Try.underlying29 rfl F.sz3 rfl) trivial ?_
  refine' rls (gn rfl) rfl (step_store1 rfl rfl rfl rfl F.one3 rfl rfl ?hl ?hc) ⟨?hb, trivial⟩ ?hk ?_
  case hb => repeat (first | exact uE | refine uN (by omega) ?_ | assumption | exact hd _ (by omega) | fail)
  case hl => first | exact Nat.le_of_ble_eq_true rfl | decide | (simp; done) | (simp; omega) | (first | rfl | (simp; done) | exact imR_len (pgI_len _))
  case hc => first | (simp only [List.set_cons_succ, List.set_cons_zero]; rfl) | rfl
  case hk => omega
  refine runsL_nil ?_
  refine runs_seq ?_
  refine runs_region ?_
  refine rl0 (gn rfl) rfl rfl (step_mv rfl rfl) trivial ?_
  refine rl1 (gn rfl) rfl rfl (step_callc rfl Try.func29 rfl rfl rfl (num_e (n + 2) (e1 (sealG b, false)) (e2 (sealG b, false)) s1 8 (by omega) rfl (rN (e1 (sealG b, false)) 8) rfl) (by repeat (first | exact .nil | refine .cons ?_ ?_ | exact VLe.refl _ | exact VLe.own_sl _ _ _ | exact VLe.fl_sl _ _ | exact VLe.nil_sl _ | exact VLe.nil_fl _ | refine VLe.agg ?_))) ⟨by repeat (first | exact uE | refine uN (by omega) ?_ | assumption | exact hd _ (by omega) | fail), trivial⟩ (by omega) ?_
  refine rl0 (gn rfl) rfl rfl (step_mv rfl rfl) trivial ?_
  refine rl1 (gn rfl) rfl rfl (step_callc rfl Try.func29 rfl rfl rfl (num_e (n + 2) (e2 (sealG b, false)) (e3 (sealG b, false)) s2 8 (by omega) rfl (rN (e2 (sealG b, false)) 8) rfl) (by repeat (first | exact .nil | refine .cons ?_ ?_ | exact VLe.refl _ | exact VLe.own_sl _ _ _ | exact VLe.fl_sl _ _ | exact VLe.nil_sl _ | exact VLe.nil_fl _ | refine VLe.agg ?_))) ⟨by repeat (first | exact uE | refine uN (by omega) ?_ | assumption | exact hd _ (by omega) | fail), trivial⟩ (by omega) ?_
  refine rl0 (gn rfl) rfl rfl (step_mv rfl rfl) trivial ?_
  refine rl1 (gn rfl) rfl rfl (step_callc rfl Try.func29 rfl rfl rfl (num_e (n + 2) (e3 (sealG b, false)) (e4 (sealG b, false)) s3 8 (by omega) rfl (rN (e3 (sealG b, false)) 8) rfl) (by repeat (first | exact .nil | refine .cons ?_ ?_ | exact VLe.refl _ | exact VLe.own_sl _ _ _ | exact VLe.fl_sl _ _ | exact VLe.nil_sl _ | exact VLe.nil_fl _ | refine VLe.agg ?_))) ⟨by repeat (first | exact uE | refine uN (by omega) ?_ | assumption | exact hd _ (by omega) | fail), trivial⟩ (by omega) ?_
  refine rl0 (gn rfl) rfl rfl (step_mv rfl rfl) trivial ?_
  refine rl1 (gn rfl) rfl rfl (step_callc rfl Try.func29 rfl rfl rfl (num_e (n + 2) (e4 (sealG b, false)) (e5 (sealG b, false)) s4 8 (by omega) rfl (rN (e4 (sealG b, false)) 8) rfl) (by repeat (first | exact .nil | refine .cons ?_ ?_ | exact VLe.refl _ | exact VLe.own_sl _ _ _ | exact VLe.fl_sl _ _ | exact VLe.nil_sl _ | exact VLe.nil_fl _ | refine VLe.agg ?_))) ⟨by repeat (first | exact uE | refine uN (by omega) ?_ | assumption | exact hd _ (by omega) | fail), trivial⟩ (by omega) ?_
  refine rl0 (gn rfl) rfl rfl (step_fieldAddr (off := 0) rfl (ev_mk rfl) Try.underlying29 rfl F.sz22 rfl) trivial ?_
  refine' rls (gn rfl) rfl (step_store1 rfl rfl rfl rfl F.one22 rfl rfl ?hl ?hc) ⟨?hb, trivial⟩ ?hk ?_
  case hb => repeat (first | exact uE | refine uN (by omega) ?_ | assumption | exact hd _ (by omega) | fail)
  case hl => first | exact Nat.le_of_ble_eq_true rfl | decide | (simp; done) | (simp; omega) | (first | rfl | (simp; done) | exact imR_len (pgI_len _))
  case hc => first | (simp only [List.set_cons_succ, List.set_cons_zero]; rfl) | rfl
  case hk => omega
  refine rl0 (gn rfl) rfl rfl (step_fieldAddr (off := 2) rfl (ev_mk rfl) Try.underlying29 rfl F.sz22 rfl) trivial ?_
  refine' rls (gn rfl) rfl (step_store1 rfl rfl rfl rfl F.one22 rfl rfl ?hl ?hc) ⟨?hb, trivial⟩ ?hk ?_
  case hb => repeat (first | exact uE | refine uN (by omega) ?_ | assumption | exact hd _ (by omega) | fail)
  case hl => first | exact Nat.le_of_ble_eq_true rfl | decide | (simp; done) | (simp; omega) | (first | rfl | (simp; done) | exact imR_len (pgI_len _))
  case hc => first | (simp only [List.set_cons_succ, List.set_cons_zero]; rfl) | rfl
  case hk => omega
  refine rl0 (gn rfl) rfl rfl (step_fieldAddr (off := 3) rfl (ev_mk rfl) Try.underlying29 rfl F.sz22 rfl) trivial ?_
  refine' rls (gn rfl) rfl (step_store1 rfl rfl rfl rfl F.one22 rfl rfl ?hl ?hc) ⟨?hb, trivial⟩ ?hk ?_
  case hb => repeat (first | exact uE | refine uN (by omega) ?_ | assumption | exact hd _ (by omega) | fail)
  case hl => first | exact Nat.le_of_ble_eq_true rfl | decide | (simp; done) | (simp; omega) | (first | rfl | (simp; done) | exact imR_len (pgI_len _))
  case hc => first | (simp only [List.set_cons_succ, List.set_cons_zero]; rfl) | rfl
  case hk => omega
  refine rl0 (gn rfl) rfl rfl (step_fieldAddr (off := 4) rfl (ev_mk rfl) Try.underlying29 rfl F.sz22 rfl) trivial ?_
  refine' rls (gn rfl) rfl (step_store1 rfl rfl rfl rfl F.one22 rfl rfl ?hl ?hc) ⟨?hb, trivial⟩ ?hk ?_
  case hb => repeat (first | exact uE | refine uN (by omega) ?_ | assumption | exact hd _ (by omega) | fail)
  case hl => first | exact Nat.le_of_ble_eq_true rfl | decide | (simp; done) | (simp; omega) | (first | rfl | (simp; done) | exact imR_len (pgI_len _))
  case hc => first | (simp only [List.set_cons_succ, List.set_cons_zero]; rfl) | rfl
  case hk => omega
  refine runsL_nil ?_
  refine runs_seq ?_
  refine runs_seq ?_
  refine runs_region ?_
  refine rl0 (gn rfl) rfl rfl (step_mv rfl rfl) trivial ?_
  refine rl1 (gn rfl) rfl rfl (step_callc rfl Try.func18 rfl rfl rfl (rr_f (n + 2) (e5 (sealG b, false)) (e6 (sealG b, false)) s5 hr rfl) (by repeat (first | exact .nil | refine .cons ?_ ?_ | exact VLe.refl _ | exact VLe.own_sl _ _ _ | exact VLe.fl_sl _ _ | exact VLe.nil_sl _ | exact VLe.nil_fl _ | refine VLe.agg ?_))) ⟨by repeat (first | exact uE | refine uN (by omega) ?_ | assumption | exact hd _ (by omega) | fail), trivial⟩ (by omega) ?_
  refine rl0 (gn rfl) rfl rfl (step_mv rfl rfl) trivial ?_
  refine rl0 (gn rfl) rfl rfl (step_extract rfl (ev_mk rfl) rfl) trivial ?_
  refine rl0 (gn rfl) rfl rfl (step_extract rfl (ev_mk rfl) rfl) trivial ?_
  refine rl0 (gn rfl) rfl rfl (step_fieldAddr (off := 5) rfl (ev_mk rfl) Try.underlying29 rfl F.sz25 rfl) trivial ?_
  refine' rls (gn rfl) rfl (step_storeS rfl rfl rfl rfl F.agg25 ?hm ?hl ?hc) ⟨?hb, trivial⟩ ?hk ?_
  case hb => repeat (first | exact uE | refine uN (by omega) ?_ | assumption | exact hd _ (by omega) | fail)
  case hm => first | rfl | (simp; done) | (first | rfl | (simp; done) | exact imR_len (pgI_len _))
  case hl => first | exact Nat.le_of_ble_eq_true rfl | decide | (simp; done) | (simp; omega) | (first | rfl | (simp; done) | exact imR_len (pgI_len _))
  case hc => rfl
  case hk => omega
  refine rl0 (gn rfl) rfl rfl (step_as rfl rfl) trivial ?_
  refine runsL_nil ?_
  refine runs_seq ?_
  refine runs_region ?_
  refine rl0 (gn rfl) rfl rfl (step_mv rfl rfl) trivial ?_
  refine rl0 (gn rfl) rfl rfl (step_unOp (c := .bool true) rfl (ev_mk rfl) (fun _ => rfl)) trivial ?_
  refine runsL_nil ?_
  refine runs_cond true (ev_mk rfl) (fun _ => ?_) (fun h_ => nomatch h_)
  refine runs_seq ?_
  refine runs_region ?_
  refine' rl0 (gn rfl) rfl rfl (step_load_all rfl rfl F.agg29 ?hl) ⟨?hb, trivial⟩ ?_
  case hb => repeat (first | exact uE | refine uN (by omega) ?_ | assumption | exact hd _ (by omega) | fail)
  case hl => first | rfl | (simp; done) | (first | rfl | (simp; done) | exact imR_len (pgI_len _))
  refine' rls (gn rfl) rfl (step_storeA rfl rfl rfl rfl F.agg29 ?hm ?hl) ⟨?hb, trivial⟩ ?hk ?_
  case hb => repeat (first | exact uE | refine uN (by omega) ?_ | assumption | exact hd _ (by omega) | fail)
  case hm => first | rfl | (simp; done) | (first | rfl | (simp; done) | exact imR_len (pgI_len _))
  case hl => first | rfl | (simp; done) | (first | rfl | (simp; done) | exact imR_len (pgI_len _))
  case hk => omega
  refine' rls (gn rfl) rfl (step_store1 rfl rfl rfl rfl F.one33 rfl rfl ?hl ?hc) ⟨?hb, trivial⟩ ?hk ?_
  case hb => repeat (first | exact uE | refine uN (by omega) ?_ | assumption | exact hd _ (by omega) | fail)
  case hl => first | exact Nat.le_of_ble_eq_true rfl | decide | (simp; done) | (simp; omega) | (first | rfl | (simp; done) | exact imR_len (pgI_len _))
  case hc => first | (simp only [List.set_cons_succ, List.set_cons_zero]; rfl) | rfl
  case hk => omega
  refine runsL_nil ?_
  refine runs_ret ?_
  refine ⟨rfl, _, _, d28_1 (n + 1) (n + 0) 3 (by decide) (by omega) [.sc (.int .u64 (rN (e1 (sealG b, false)) 8)), .sc (.int .i64 (rN (sealG b, false) 1)), .sc (.int .u64 (rN (e2 (sealG b, false)) 8)), .sc (.int .u64 (rN (e3 (sealG b, false)) 8)), .sc (.int .u64 (rN (e4 (sealG b, false)) 8)), .sc (.int .u64 zRc.id), .sc (.int .u64 zRc.key), .sc (.int .u32 zRc.x), .sc (.int .u32 zRc.y), .sc (.string zRc.val), .sc (.bool zRc.gh), .sc (.slice none 0 0), .sc (.slice none 0 0)] (by first | rfl | (simp; done)), (by intro p_ hp_; simp only [List.mem_cons, List.not_mem_nil, or_false] at hp_; (first | (cases hp_; done) | (rcases hp_ with rfl | rfl) | rcases hp_ with rfl) <;> (repeat (first | exact uE | refine uN (by omega) ?_ | assumption | exact hd _ (by omega) | fail))), (by intro p_ hp_; first | (cases hp_; done) | (simp only [List.mem_cons, List.not_mem_nil, or_false] at hp_; (first | (rcases hp_ with rfl | rfl) | rcases hp_ with rfl) <;> (simp only; omega))), ?_⟩
  simp only [upds]
  refine fin_mkg (resc rfl (by repeat (first | exact uE | refine uN (by omega) ?_ | assumption | exact hd _ (by omega) | fail)) F.agg29 (by first | rfl | (simp; done) | (first | rfl | (simp; done) | exact imR_len (pgI_len _))) (resc1 rfl (by repeat (first | exact uE | refine uN (by omega) ?_ | assumption | exact hd _ (by omega) | fail)) F.one33 rfl res0)) ?_ ?_ ?_ ?_ ?_
  · (repeat' (first | exact VLe.refl _ | exact VLe.own_sl _ _ _ | exact VLe.fl_sl _ _ | exact VLe.nil_sl _ | exact VLe.nil_fl _ | exact VLes.refl _ | exact .nil | refine VLe.tup ?_ | refine VLe.agg ?_ | refine .cons ?_ ?_ | (rw [Int.natCast_add]; exact VLe.refl _) | exact vle_int (by omega) | exact vle_bool (by first | rfl | assumption | (simp_all; done)) | fail))
  · first | (exact ⟨bd_en _ _, trivial, trivial⟩; done) | (repeat (first | exact trivial | assumption | omega | (refine bdR_map (fun _ => ?_)) | (refine bdL_map (fun _ => ?_)) | refine ⟨?_, ?_⟩ | fail))
  · intro k_ hk_; exact ble (by repeat (first | exact rfl | refine uN (by omega) ?_ | assumption | fail))
  · intro p hp; cases hp
  · first | (exact ⟨bd_en _ _, trivial, trivial⟩; done) | (repeat (first | exact trivial | assumption | omega | (refine bdR_map (fun _ => ?_)) | (refine bdL_map (fun _ => ?_)) | refine ⟨?_, ?_⟩ | fail))
set_option maxRecDepth 100000 in
set_option maxHeartbeats 4000000 in
theorem get_f2 (b : List Int) (hb : Byts b) (hl : b.length ≤ 1000000) (hs : sealOK b = true) (hr : rrOK (e5 (sealG b, false)) = true) (hG : ¬ GOK (sealG b, false)) : Does Try.prog 16 [.sl 1 (bytesV b)] [] [] (.tup [.agg (enC zEn), .sc (.int .i64 3)]) := by
  refine does_defer 40 Try.func16 rfl rfl rfl (fun n X0 hd hpre hup hvs => ?_)
  have s0 : okS (sealG b, false) := ⟨sealG_byts hb, Nat.le_trans (sealG_len b) (by omega)⟩
  have s1 : okS (e1 (sealG b, false)) := okS_rS s0 1
  have s2 : okS (e2 (sealG b, false)) := okS_rS s1 8
  have s3 : okS (e3 (sealG b, false)) := okS_rS s2 8
  have s4 : okS (e4 (sealG b, false)) := okS_rS s3 8
  have s5 : okS (e5 (sealG b, false)) := okS_rS s4 8
  have s6 : okS (e6 (sealG b, false)) := okS_q6 s5
  have sp := ok_pS s0
  have sa := ok_aS s0
  have v0 := rN_1 s0
  have vK : 0 ≤ eK (sealG b, false) ∧ eK (sealG b, false) < 256 := rN_1 s6
  have vM : 0 ≤ eM (sealG b, false) ∧ eM (sealG b, false) < 256 := rN_1 (sp _)
  refine runs_seq ?_
  refine runs_region ?_
  refine rl1 (gn rfl) rfl rfl (step_allocc (k := n + 0) (zs := [.int .u64 0, .int .i64 0, .int .u64 0, .int .u64 0, .int .u64 0, .int .u64 0, .int .u64 0, .int .u32 0, .int .u32 0, .string ByteArray.empty, .bool false, .slice none 0 0, .slice none 0 0]) (cs := [.sc (.int .u64 0), .sc (.int .i64 0), .sc (.int .u64 0), .sc (.int .u64 0), .sc (.int .u64 0), .sc (.int .u64 0), .sc (.int .u64 0), .sc (.int .u32 0), .sc (.int .u32 0), .sc (.string ByteArray.empty), .sc (.bool false), .sc (.slice none 0 0), .sc (.slice none 0 0)]) rfl F.zero29 (by first | rfl | simp) (by first | rfl | decide | simp) (by first | rfl | simp)) ⟨by repeat (first | exact uE | refine uN (by omega) ?_ | assumption | exact hd _ (by omega) | fail), trivial⟩ (by omega) ?_
  refine rl1 (gn rfl) rfl rfl (step_allocc (k := n + 1) (zs := [.int .i64 0]) (cs := [.sc (.int .i64 0)]) rfl F.zero33 (by first | rfl | simp) (by first | rfl | decide | simp) (by first | rfl | simp)) ⟨by repeat (first | exact uE | refine uN (by omega) ?_ | assumption | exact hd _ (by omega) | fail), trivial⟩ (by omega) ?_
  refine runsL_nil ?_
  refine runs_seq ?_
  refine runs_region ?_
  refine rl0 (gn rfl) rfl rfl (step_mv rfl rfl) trivial ?_
  refine rl0 (gn rfl) rfl rfl (step_callc rfl Try.func27 rfl rfl rfl (sget_c b hb (by omega)) (by repeat (first | exact .nil | refine .cons ?_ ?_ | exact VLe.refl _ | exact VLe.own_sl _ _ _ | exact VLe.fl_sl _ _ | exact VLe.nil_sl _ | exact VLe.nil_fl _ | refine VLe.agg ?_))) trivial ?_
  refine rl0 (gn rfl) rfl rfl (step_mv rfl rfl) trivial ?_
  refine rl0 (gn rfl) rfl rfl (step_extract rfl (ev_mk rfl) rfl) trivial ?_
  refine rl0 (gn rfl) rfl rfl (step_extract rfl (ev_mk rfl) rfl) trivial ?_
  refine rl0 (gn rfl) rfl rfl (step_as rfl rfl) trivial ?_
  refine rl0 (gn rfl) rfl rfl (step_as rfl rfl) trivial ?_
  refine runsL_nil ?_
  refine runs_seq ?_
  refine runs_seq ?_
  refine runs_region ?_
  refine rl0 (gn rfl) rfl rfl (step_mv rfl rfl) trivial ?_
  refine rl0 (gn rfl) rfl rfl (step_unOp rfl (ev_mk rfl) (fun _ => rfl)) trivial ?_
  refine rl_know (d := 14) (c := false) rfl (by rw [hs]; rfl) ?_
  refine runsL_nil ?_
  refine runs_cond false (ev_mk rfl) (fun h_ => nomatch h_) (fun _ => ?_)
  refine runs_skip ?_
  refine runs_seq ?_
  refine runs_region ?_
  refine' rls (gn rfl) rfl (step_store1 rfl rfl rfl rfl F.one33 rfl rfl ?hl ?hc) ⟨?hb, trivial⟩ ?hk ?_
  case hb => repeat (first | exact uE | refine uN (by omega) ?_ | assumption | exact hd _ (by omega) | fail)
  case hl => first | exact Nat.le_of_ble_eq_true rfl | decide | (simp; done) | (simp; omega) | (first | rfl | (simp; done) | exact imR_len (pgI_len _))
  case hc => first | (simp only [List.set_cons_succ, List.set_cons_zero]; rfl) | rfl
  case hk => omega
  refine runsL_nil ?_
  refine runs_defer rfl rfl rfl rfl rfl rfl rfl rfl Try.func28 rfl rfl (fun B' => ?_)
  refine runs_seq ?_
  refine runs_region ?_
  refine rl0 (gn rfl) rfl rfl (step_mv rfl rfl) trivial ?_
  refine rl1 (gn rfl) rfl rfl (step_callc rfl Try.func19 rfl rfl rfl (read_c (sealG b) (n + 2) (by have := sealG_len b; omega)) (by repeat (first | exact .nil | refine .cons ?_ ?_ | exact VLe.refl _ | exact VLe.own_sl _ _ _ | exact VLe.fl_sl _ _ | exact VLe.nil_sl _ | exact VLe.nil_fl _ | refine VLe.agg ?_))) ⟨by repeat (first | exact uE | refine uN (by omega) ?_ | assumption | exact hd _ (by omega) | fail), trivial⟩ (by omega) ?_
  refine rl0 (gn rfl) rfl rfl (step_as rfl rfl) trivial ?_
  refine runsL_nil ?_
  refine runs_seq ?_
  refine runs_region ?_
  refine rl0 (gn rfl) rfl rfl (step_mv rfl rfl) trivial ?_
  refine rl1 (gn rfl) rfl rfl (step_callc rfl Try.func29 rfl rfl rfl (num_e (n + 2) (sealG b, false) (e1 (sealG b, false)) s0 1 (by omega) rfl (rN (sealG b, false) 1) rfl) (by repeat (first | exact .nil | refine .cons ?_ ?_ | exact VLe.refl _ | exact VLe.own_sl _ _ _ | exact VLe.fl_sl _ _ | exact VLe.nil_sl _ | exact VLe.nil_fl _ | refine VLe.agg ?_))) ⟨by repeat (first | exact uE | refine uN (by omega) ?_ | assumption | exact hd _ (by omega) | fail), trivial⟩ (by omega) ?_
  refine rl0 (gn rfl) rfl rfl (step_conv_id rfl rfl Try.underlying22 Try.underlying3 (w64 (by exact ⟨Int.le_trans (by decide) v0.1, Int.le_of_lt (Int.lt_trans v0.2 (by decide))⟩))) trivial ?_
  refine rl0 (gn rfl) rfl rfl (step_fieldAddr (off := 1) rfl (ev_mk rfl) Try.underlying29 rfl F.sz3 rfl) trivial ?_
  refine' rls (gn rfl) rfl (step_store1 rfl rfl rfl rfl F.one3 rfl rfl ?hl ?hc) ⟨?hb, trivial⟩ ?hk ?_
  case hb => repeat (first | exact uE | refine uN (by omega) ?_ | assumption | exact hd _ (by omega) | fail)
  case hl => first | exact Nat.le_of_ble_eq_true rfl | decide | (simp; done) | (simp; omega) | (first | rfl | (simp; done) | exact imR_len (pgI_len _))
  case hc => first | (simp only [List.set_cons_succ, List.set_cons_zero]; rfl) | rfl
  case hk => omega
  refine runsL_nil ?_
  refine runs_seq ?_
  refine runs_region ?_
  refine rl0 (gn rfl) rfl rfl (step_mv rfl rfl) trivial ?_
  refine rl1 (gn rfl) rfl rfl (step_callc rfl Try.func29 rfl rfl rfl (num_e (n + 2) (e1 (sealG b, false)) (e2 (sealG b, false)) s1 8 (by omega) rfl (rN (e1 (sealG b, false)) 8) rfl) (by repeat (first | exact .nil | refine .cons ?_ ?_ | exact VLe.refl _ | exact VLe.own_sl _ _ _ | exact VLe.fl_sl _ _ | exact VLe.nil_sl _ | exact VLe.nil_fl _ | refine VLe.agg ?_))) ⟨by repeat (first | exact uE | refine uN (by omega) ?_ | assumption | exact hd _ (by omega) | fail), trivial⟩ (by omega) ?_
  refine rl0 (gn rfl) rfl rfl (step_mv rfl rfl) trivial ?_
  refine rl1 (gn rfl) rfl rfl (step_callc rfl Try.func29 rfl rfl rfl (num_e (n + 2) (e2 (sealG b, false)) (e3 (sealG b, false)) s2 8 (by omega) rfl (rN (e2 (sealG b, false)) 8) rfl) (by repeat (first | exact .nil | refine .cons ?_ ?_ | exact VLe.refl _ | exact VLe.own_sl _ _ _ | exact VLe.fl_sl _ _ | exact VLe.nil_sl _ | exact VLe.nil_fl _ | refine VLe.agg ?_))) ⟨by repeat (first | exact uE | refine uN (by omega) ?_ | assumption | exact hd _ (by omega) | fail), trivial⟩ (by omega) ?_
  refine rl0 (gn rfl) rfl rfl (step_mv rfl rfl) trivial ?_
  refine rl1 (gn rfl) rfl rfl (step_callc rfl Try.func29 rfl rfl rfl (num_e (n + 2) (e3 (sealG b, false)) (e4 (sealG b, false)) s3 8 (by omega) rfl (rN (e3 (sealG b, false)) 8) rfl) (by repeat (first | exact .nil | refine .cons ?_ ?_ | exact VLe.refl _ | exact VLe.own_sl _ _ _ | exact VLe.fl_sl _ _ | exact VLe.nil_sl _ | exact VLe.nil_fl _ | refine VLe.agg ?_))) ⟨by repeat (first | exact uE | refine uN (by omega) ?_ | assumption | exact hd _ (by omega) | fail), trivial⟩ (by omega) ?_
  refine rl0 (gn rfl) rfl rfl (step_mv rfl rfl) trivial ?_
  refine rl1 (gn rfl) rfl rfl (step_callc rfl Try.func29 rfl rfl rfl (num_e (n + 2) (e4 (sealG b, false)) (e5 (sealG b, false)) s4 8 (by omega) rfl (rN (e4 (sealG b, false)) 8) rfl) (by repeat (first | exact .nil | refine .cons ?_ ?_ | exact VLe.refl _ | exact VLe.own_sl _ _ _ | exact VLe.fl_sl _ _ | exact VLe.nil_sl _ | exact VLe.nil_fl _ | refine VLe.agg ?_))) ⟨by repeat (first | exact uE | refine uN (by omega) ?_ | assumption | exact hd _ (by omega) | fail), trivial⟩ (by omega) ?_
  refine rl0 (gn rfl) rfl rfl (step_fieldAddr (off := 0) rfl (ev_mk rfl) Try.underlying29 rfl F.sz22 rfl) trivial ?_
  refine' rls (gn rfl) rfl (step_store1 rfl rfl rfl rfl F.one22 rfl rfl ?hl ?hc) ⟨?hb, trivial⟩ ?hk ?_
  case hb => repeat (first | exact uE | refine uN (by omega) ?_ | assumption | exact hd _ (by omega) | fail)
  case hl => first | exact Nat.le_of_ble_eq_true rfl | decide | (simp; done) | (simp; omega) | (first | rfl | (simp; done) | exact imR_len (pgI_len _))
  case hc => first | (simp only [List.set_cons_succ, List.set_cons_zero]; rfl) | rfl
  case hk => omega
  refine rl0 (gn rfl) rfl rfl (step_fieldAddr (off := 2) rfl (ev_mk rfl) Try.underlying29 rfl F.sz22 rfl) trivial ?_
  refine' rls (gn rfl) rfl (step_store1 rfl rfl rfl rfl F.one22 rfl rfl ?hl ?hc) ⟨?hb, trivial⟩ ?hk ?_
  case hb => repeat (first | exact uE | refine uN (by omega) ?_ | assumption | exact hd _ (by omega) | fail)
  case hl => first | exact Nat.le_of_ble_eq_true rfl | decide | (simp; done) | (simp; omega) | (first | rfl | (simp; done) | exact imR_len (pgI_len _))
  case hc => first | (simp only [List.set_cons_succ, List.set_cons_zero]; rfl) | rfl
  case hk => omega
  refine rl0 (gn rfl) rfl rfl (step_fieldAddr (off := 3) rfl (ev_mk rfl) Try.underlying29 rfl F.sz22 rfl) trivial ?_
  refine' rls (gn rfl) rfl (step_store1 rfl rfl rfl rfl F.one22 rfl rfl ?hl ?hc) ⟨?hb, trivial⟩ ?hk ?_
  case hb => repeat (first | exact uE | refine uN (by omega) ?_ | assumption | exact hd _ (by omega) | fail)
  case hl => first | exact Nat.le_of_ble_eq_true rfl | decide | (simp; done) | (simp; omega) | (first | rfl | (simp; done) | exact imR_len (pgI_len _))
  case hc => first | (simp only [List.set_cons_succ, List.set_cons_zero]; rfl) | rfl
  case hk => omega
  refine rl0 (gn rfl) rfl rfl (step_fieldAddr (off := 4) rfl (ev_mk rfl) Try.underlying29 rfl F.sz22 rfl) trivial ?_
  refine' rls (gn rfl) rfl (step_store1 rfl rfl rfl rfl F.one22 rfl rfl ?hl ?hc) ⟨?hb, trivial⟩ ?hk ?_
  case hb => repeat (first | exact uE | refine uN (by omega) ?_ | assumption | exact hd _ (by omega) | fail)
  case hl => first | exact Nat.le_of_ble_eq_true rfl | decide | (simp; done) | (simp; omega) | (first | rfl | (simp; done) | exact imR_len (pgI_len _))
  case hc => first | (simp only [List.set_cons_succ, List.set_cons_zero]; rfl) | rfl
  case hk => omega
  refine runsL_nil ?_
  refine runs_seq ?_
  refine runs_seq ?_
  refine runs_region ?_
  refine rl0 (gn rfl) rfl rfl (step_mv rfl rfl) trivial ?_
  refine rl1 (gn rfl) rfl rfl (step_callc rfl Try.func18 rfl rfl rfl (rr_e (n + 2) (e5 (sealG b, false)) (e6 (sealG b, false)) s5 hr rfl) (by repeat (first | exact .nil | refine .cons ?_ ?_ | exact VLe.refl _ | exact VLe.own_sl _ _ _ | exact VLe.fl_sl _ _ | exact VLe.nil_sl _ | exact VLe.nil_fl _ | refine VLe.agg ?_))) ⟨by repeat (first | exact uE | refine uN (by omega) ?_ | assumption | exact hd _ (by omega) | fail), trivial⟩ (by omega) ?_
  refine rl0 (gn rfl) rfl rfl (step_mv rfl rfl) trivial ?_
  refine rl0 (gn rfl) rfl rfl (step_extract rfl (ev_mk rfl) rfl) trivial ?_
  refine rl0 (gn rfl) rfl rfl (step_extract rfl (ev_mk rfl) rfl) trivial ?_
  refine rl0 (gn rfl) rfl rfl (step_fieldAddr (off := 5) rfl (ev_mk rfl) Try.underlying29 rfl F.sz25 rfl) trivial ?_
  refine' rls (gn rfl) rfl (step_storeS rfl rfl rfl rfl F.agg25 ?hm ?hl ?hc) ⟨?hb, trivial⟩ ?hk ?_
  case hb => repeat (first | exact uE | refine uN (by omega) ?_ | assumption | exact hd _ (by omega) | fail)
  case hm => first | rfl | (simp; done) | (first | rfl | (simp; done) | exact imR_len (pgI_len _))
  case hl => first | exact Nat.le_of_ble_eq_true rfl | decide | (simp; done) | (simp; omega) | (first | rfl | (simp; done) | exact imR_len (pgI_len _))
  case hc => rfl
  case hk => omega
  refine rl0 (gn rfl) rfl rfl (step_as rfl rfl) trivial ?_
  refine runsL_nil ?_
  refine runs_seq ?_
  refine runs_region ?_
  refine rl0 (gn rfl) rfl rfl (step_mv rfl rfl) trivial ?_
  refine rl0 (gn rfl) rfl rfl (step_unOp (c := .bool false) rfl (ev_mk rfl) (fun _ => rfl)) trivial ?_
  refine runsL_nil ?_
  refine runs_cond false (ev_mk rfl) (fun h_ => nomatch h_) (fun _ => ?_)
  refine runs_skip ?_
  refine runs_seq ?_
  refine runs_seq ?_
  refine runs_region ?_
  refine rl0 (gn rfl) rfl rfl (step_mv rfl rfl) trivial ?_
  refine rl1 (gn rfl) rfl rfl (step_callc rfl Try.func29 rfl rfl rfl (num_e (n + 2) (e6 (sealG b, false)) (e7 (sealG b, false)) s6 1 (by omega) rfl (eK (sealG b, false)) rfl) (by repeat (first | exact .nil | refine .cons ?_ ?_ | exact VLe.refl _ | exact VLe.own_sl _ _ _ | exact VLe.fl_sl _ _ | exact VLe.nil_sl _ | exact VLe.nil_fl _ | refine VLe.agg ?_))) ⟨by repeat (first | exact uE | refine uN (by omega) ?_ | assumption | exact hd _ (by omega) | fail), trivial⟩ (by omega) ?_
  refine rl0 (gn rfl) rfl rfl (step_conv_id rfl rfl Try.underlying22 Try.underlying3 (w64 (by exact ⟨Int.le_trans (by decide) vK.1, Int.le_of_lt (Int.lt_trans vK.2 (by decide))⟩))) trivial ?_
  refine rl0 (gn rfl) rfl rfl (step_mv rfl rfl) trivial ?_
  refine runsL_nil ?_
  refine runs_block ?_
  refine runs_growb (k := n + 0) (kn := n + 3) (q := 11) (e := 225) (by repeat (first | exact uE | refine uN (by omega) ?_ | assumption | exact hd _ (by omega) | fail)) rfl (by repeat (first | exact uE | refine uN (by omega) ?_ | assumption | exact hd _ (by omega) | fail)) (by omega) (by omega) ?_
  refine runs_growb (k := n + 0) (kn := n + 4) (q := 12) (e := 1) (by repeat (first | exact uE | refine uN (by omega) ?_ | assumption | exact hd _ (by omega) | fail)) rfl (by repeat (first | exact uE | refine uN (by omega) ?_ | assumption | exact hd _ (by omega) | fail)) (by omega) (by omega) ?_
  refine runs_loop (fun (ri_ : Nat) (st_ : Go.Vm.S) => ∃ (j : Nat) (m0 : Nat) (b0 : Nat → Box), (st_ = ⟨mk [(2, .ref (n + 0) 0), (3, .ref (n + 1) 0), (5, .ref (n + 2) 0), (46, .sc (.int .i64 (eK (sealG b, false)))), (47, .sc (.int .i64 j))], m0, b0⟩) ∧ (ri_ = (eK (sealG b, false)).toNat - j) ∧ (n + 5 ≤ m0) ∧ (∀ k_, k_ < n → b0 k_ = X0.bx k_) ∧ (b0 (n + 0) = .cells [.sc (.int .u64 (rN (e1 (sealG b, false)) 8)), .sc (.int .i64 (rN (sealG b, false) 1)), .sc (.int .u64 (rN (e2 (sealG b, false)) 8)), .sc (.int .u64 (rN (e3 (sealG b, false)) 8)), .sc (.int .u64 (rN (e4 (sealG b, false)) 8)), .sc (.int .u64 (rrV (e5 (sealG b, false))).id), .sc (.int .u64 (rrV (e5 (sealG b, false))).key), .sc (.int .u32 (rrV (e5 (sealG b, false))).x), .sc (.int .u32 (rrV (e5 (sealG b, false))).y), .sc (.string (rrV (e5 (sealG b, false))).val), .sc (.bool (rrV (e5 (sealG b, false))).gh), .own 225 ((pL (sealG b, false) j).map imR) (n + 3), .own 1 [] (n + 4)]) ∧ (b0 (n + 1) = .cells [.sc (.int .i64 0)]) ∧ (b0 (n + 2) = .cells [.sl 1 (bytesV (pS (sealG b, false) j).1), .sc (.bool (pS (sealG b, false) j).2)]) ∧ (b0 (n + 3) = .tail ((pL (sealG b, false) j).map imR).length) ∧ (b0 (n + 4) = .tail 0) ∧ ((j : Int) ≤ eK (sealG b, false)) ∧ (∀ i : Nat, i < j → pgOK (pS (sealG b, false) i) = true)) ((eK (sealG b, false)).toNat - 0) ⟨_, sle ?_ (Nat.le_refl _), 0, _, _, rfl, rfl, ?_⟩ ?_
  · (repeat' (first | exact trivial | refine ⟨⟨_, rfl, ?_⟩, ?_⟩ | fail)); all_goals (repeat' (first | exact VLe.refl _ | exact VLe.own_sl _ _ _ | exact VLe.fl_sl _ _ | exact VLe.nil_sl _ | exact VLe.nil_fl _ | exact VLes.refl _ | exact .nil | refine VLe.tup ?_ | refine VLe.agg ?_ | refine .cons ?_ ?_ | (rw [Int.natCast_add]; exact VLe.refl _) | exact vle_int (by omega) | exact vle_bool (by first | rfl | assumption | (simp_all; done)) | fail))
  · exact ⟨by omega, (fun k_ hk_ => by repeat (first | exact rfl | refine uN (by omega) ?_ | assumption | fail)), by first | ((repeat (first | exact uE | assumption | refine uN (by omega) ?_ | fail)); done) | exact tl_eq (by repeat (first | exact uE | assumption | refine uN (by omega) ?_ | fail)) (by first | rfl | (simp [pL, aL]; done) | (simp [pL_len, aL_len]; done)), by first | ((repeat (first | exact uE | assumption | refine uN (by omega) ?_ | fail)); done) | exact tl_eq (by repeat (first | exact uE | assumption | refine uN (by omega) ?_ | fail)) (by first | rfl | (simp [pL, aL]; done) | (simp [pL_len, aL_len]; done)), by first | ((repeat (first | exact uE | assumption | refine uN (by omega) ?_ | fail)); done) | exact tl_eq (by repeat (first | exact uE | assumption | refine uN (by omega) ?_ | fail)) (by first | rfl | (simp [pL, aL]; done) | (simp [pL_len, aL_len]; done)), by first | ((repeat (first | exact uE | assumption | refine uN (by omega) ?_ | fail)); done) | exact tl_eq (by repeat (first | exact uE | assumption | refine uN (by omega) ?_ | fail)) (by first | rfl | (simp [pL, aL]; done) | (simp [pL_len, aL_len]; done)), by first | ((repeat (first | exact uE | assumption | refine uN (by omega) ?_ | fail)); done) | exact tl_eq (by repeat (first | exact uE | assumption | refine uN (by omega) ?_ | fail)) (by first | rfl | (simp [pL, aL]; done) | (simp [pL_len, aL_len]; done)), by omega, fun i hi => by omega⟩
  · rintro _ _ ⟨j, m0, b0, rfl, rfl, hm0, hf0, hB0_0, hB0_1, hB0_2, hB0_3, hB0_4, hF0_0, hF0_1⟩
    refine runs_know (fun hd0 => ?_)
    refine runs_bump 20 ?_
    simp only at hd0
    refine runs_seq ?_
    refine runs_region ?_
    refine rl_lss (gn rfl) rfl rfl rfl rfl rfl (fun h1 => ?_) (fun h1 => ?_)
    · skip
      refine runsL_nil ?_
      refine runs_seq ?_
      refine runs_cond true (ev_mk rfl) (fun _ => ?_) (fun h_ => nomatch h_)
      refine runs_skip ?_
      refine runs_seq ?_
      refine runs_block ?_
      refine runs_seq ?_
      refine runs_region ?_
      refine rl0 (gn rfl) rfl rfl (step_mv rfl rfl) trivial ?_
      refine rl1 (gn rfl) rfl rfl (step_callc rfl Try.func30 rfl rfl rfl (page_e (n + 2) (pS (sealG b, false) j) (pS (sealG b, false) (j + 1)) (sp j) rfl) (by repeat (first | exact .nil | refine .cons ?_ ?_ | exact VLe.refl _ | exact VLe.own_sl _ _ _ | exact VLe.fl_sl _ _ | exact VLe.nil_sl _ | exact VLe.nil_fl _ | refine VLe.agg ?_))) ⟨by repeat (first | exact uE | refine uN (by omega) ?_ | assumption | exact hd _ (by omega) | exact hd0 _ (by omega) | fail), trivial⟩ (by omega) ?_
      refine rl0 (gn rfl) rfl rfl (step_mv rfl rfl) trivial ?_
      refine rl0 (gn rfl) rfl rfl (step_extract rfl (ev_mk rfl) rfl) trivial ?_
      refine rl0 (gn rfl) rfl rfl (step_extract rfl (ev_mk rfl) rfl) trivial ?_
      refine rl1 (gn rfl) rfl rfl (step_allocc (k := m0 + 0) (zs := ((.int .i64 0) :: List.replicate 224 (.int .u8 0))) (cs := V.sc (.int .i64 0) :: List.replicate 224 (V.sc (.int .u8 0))) rfl F.zero51 (by first | rfl | simp) (by first | rfl | decide | simp) (by first | rfl | simp)) ⟨by repeat (first | exact uE | refine uN (by omega) ?_ | assumption | exact hd _ (by omega) | exact hd0 _ (by omega) | fail), trivial⟩ (by omega) ?_
      refine' rls (gn rfl) rfl (step_storeA rfl rfl rfl rfl F.agg51 ?hm ?hl) ⟨?hb, trivial⟩ ?hk ?_
      case hb => repeat (first | exact uE | refine uN (by omega) ?_ | assumption | exact hd _ (by omega) | exact hd0 _ (by omega) | fail)
      case hm => first | rfl | (simp; done) | (first | rfl | (simp; done) | exact imR_len (pgI_len _))
      case hl => first | rfl | (simp; done) | (first | rfl | (simp; done) | exact imR_len (pgI_len _))
      case hk => omega
      refine rl0 (gn rfl) rfl rfl (step_as rfl rfl) trivial ?_
      refine runsL_nil ?_
      refine runs_seq ?_
      refine runs_seq ?_
      refine runs_region ?_
      refine rl0 (gn rfl) rfl rfl (step_mv rfl rfl) trivial ?_
      refine rl0 (gn rfl) rfl rfl (step_unOp rfl (ev_mk rfl) (fun _ => rfl)) trivial ?_
      refine runsL_nil ?_
      refine runs_cond _ (ev_mk rfl) (fun h2 => ?_) (fun h2 => ?_)
      · skip
        refine runs_seq ?_
        refine runs_region ?_
        refine' rl0 (gn rfl) rfl rfl (step_load_all rfl rfl F.agg29 ?hl) ⟨?hb, trivial⟩ ?_
        case hb => repeat (first | exact uE | refine uN (by omega) ?_ | assumption | exact hd _ (by omega) | exact hd0 _ (by omega) | fail)
        case hl => first | rfl | (simp; done) | (first | rfl | (simp; done) | exact imR_len (pgI_len _))
        refine' rls (gn rfl) rfl (step_storeA rfl rfl rfl rfl F.agg29 ?hm ?hl) ⟨?hb, trivial⟩ ?hk ?_
        case hb => repeat (first | exact uE | refine uN (by omega) ?_ | assumption | exact hd _ (by omega) | exact hd0 _ (by omega) | fail)
        case hm => first | rfl | (simp; done) | (first | rfl | (simp; done) | exact imR_len (pgI_len _))
        case hl => first | rfl | (simp; done) | (first | rfl | (simp; done) | exact imR_len (pgI_len _))
        case hk => omega
        refine' rls (gn rfl) rfl (step_store1 rfl rfl rfl rfl F.one33 rfl rfl ?hl ?hc) ⟨?hb, trivial⟩ ?hk ?_
        case hb => repeat (first | exact uE | refine uN (by omega) ?_ | assumption | exact hd _ (by omega) | exact hd0 _ (by omega) | fail)
        case hl => first | exact Nat.le_of_ble_eq_true rfl | decide | (simp; done) | (simp; omega) | (first | rfl | (simp; done) | exact imR_len (pgI_len _))
        case hc => first | (simp only [List.set_cons_succ, List.set_cons_zero]; rfl) | rfl
        case hk => omega
        refine runsL_nil ?_
        refine runs_ret ?_
        refine ⟨rfl, _, _, d28_1 (n + 1) (n + 0) 3 (by decide) (by omega) [.sc (.int .u64 (rN (e1 (sealG b, false)) 8)), .sc (.int .i64 (rN (sealG b, false) 1)), .sc (.int .u64 (rN (e2 (sealG b, false)) 8)), .sc (.int .u64 (rN (e3 (sealG b, false)) 8)), .sc (.int .u64 (rN (e4 (sealG b, false)) 8)), .sc (.int .u64 (rrV (e5 (sealG b, false))).id), .sc (.int .u64 (rrV (e5 (sealG b, false))).key), .sc (.int .u32 (rrV (e5 (sealG b, false))).x), .sc (.int .u32 (rrV (e5 (sealG b, false))).y), .sc (.string (rrV (e5 (sealG b, false))).val), .sc (.bool (rrV (e5 (sealG b, false))).gh), .own 225 ((pL (sealG b, false) j).map imR) (n + 3), .own 1 [] (n + 4)] (by first | rfl | (simp; done)), (by intro p_ hp_; simp only [List.mem_cons, List.not_mem_nil, or_false] at hp_; (first | (cases hp_; done) | (rcases hp_ with rfl | rfl) | rcases hp_ with rfl) <;> (repeat (first | exact uE | refine uN (by omega) ?_ | assumption | exact hd _ (by omega) | exact hd0 _ (by omega) | fail))), (by intro p_ hp_; first | (cases hp_; done) | (simp only [List.mem_cons, List.not_mem_nil, or_false] at hp_; (first | (rcases hp_ with rfl | rfl) | rcases hp_ with rfl) <;> (simp only; omega))), ?_⟩
        simp only [upds]
        refine fin_mkg (resc rfl (by repeat (first | exact uE | refine uN (by omega) ?_ | assumption | exact hd _ (by omega) | exact hd0 _ (by omega) | fail)) F.agg29 (by first | rfl | (simp; done) | (first | rfl | (simp; done) | exact imR_len (pgI_len _))) (resc1 rfl (by repeat (first | exact uE | refine uN (by omega) ?_ | assumption | exact hd _ (by omega) | exact hd0 _ (by omega) | fail)) F.one33 rfl res0)) ?_ ?_ ?_ ?_ ?_
        · (repeat' (first | exact VLe.refl _ | exact VLe.own_sl _ _ _ | exact VLe.fl_sl _ _ | exact VLe.nil_sl _ | exact VLe.nil_fl _ | exact VLes.refl _ | exact .nil | refine VLe.tup ?_ | refine VLe.agg ?_ | refine .cons ?_ ?_ | (rw [Int.natCast_add]; exact VLe.refl _) | exact vle_int (by omega) | exact vle_bool (by first | rfl | assumption | (simp_all; done)) | fail))
        · first | (exact ⟨bd_en _ _, trivial, trivial⟩; done) | (repeat (first | exact trivial | assumption | omega | (refine bdR_map (fun _ => ?_)) | (refine bdL_map (fun _ => ?_)) | refine ⟨?_, ?_⟩ | fail))
        · intro k_ hk_; exact ble (by repeat (first | exact rfl | refine uN (by omega) ?_ | assumption | exact hf0 _ (by omega) | fail))
        · intro p hp; cases hp
        · first | (exact ⟨bd_en _ _, trivial, trivial⟩; done) | (repeat (first | exact trivial | assumption | omega | (refine bdR_map (fun _ => ?_)) | (refine bdL_map (fun _ => ?_)) | refine ⟨?_, ?_⟩ | fail))
      · skip
        refine runs_skip ?_
        refine runs_region ?_
        refine rl0 (gn rfl) rfl rfl (step_fieldAddr (off := 11) rfl (ev_mk rfl) Try.underlying29 rfl F.sz26 rfl) trivial ?_
        refine' rl0 (gn rfl) rfl rfl (step_load_one rfl (ev_mk rfl) F.one26 ?hv) ⟨?hb, trivial⟩ ?_
        case hb => repeat (first | exact uE | refine uN (by omega) ?_ | assumption | exact hd _ (by omega) | exact hd0 _ (by omega) | fail)
        case hv => rfl
        refine' rl0 (gn rfl) rfl rfl (step_load_all rfl rfl F.agg51 ?hl) ⟨?hb, trivial⟩ ?_
        case hb => repeat (first | exact uE | refine uN (by omega) ?_ | assumption | exact hd _ (by omega) | exact hd0 _ (by omega) | fail)
        case hl => first | rfl | (simp; done) | (first | rfl | (simp; done) | exact imR_len (pgI_len _))
        refine rl0 (gn rfl) rfl rfl (step_lit rfl Try.underlying26 F.sz51 F.zero51 (by first | rfl | simp) (by first | rfl | simp | decide) (by decide) rfl rfl (by first | (simp [V.cs, V.stor, oneV]; done) | (simp [V.cs, V.stor, oneV, imR, pgI_len, bV])) rfl) trivial ?_
        refine' rl1 (gn rfl) rfl rfl (step_append_own rfl rfl rfl Try.underlying26 ⟨_, Try.underlying26, fun k_ => by intro h_; cases h_⟩ F.el51 (ev_mk rfl) (ev_mk rfl) (gives_sl (.inr (.inl rfl))) ?hg) ⟨?hb, trivial⟩ (by omega) ?_
        case hb => repeat (first | exact uE | refine uN (by omega) ?_ | assumption | exact hd _ (by omega) | exact hd0 _ (by omega) | fail)
        case hg => first | (simp [pL_len, aL_len]; done) | (simp [pL_len, aL_len]; omega)
        refine rl0 (gn rfl) rfl rfl (step_fieldAddr (off := 11) rfl (ev_mk rfl) Try.underlying29 rfl F.sz26 rfl) trivial ?_
        refine' rls (gn rfl) rfl (step_store1 rfl rfl rfl rfl F.one26 rfl rfl ?hl ?hc) ⟨?hb, trivial⟩ ?hk ?_
        case hb => repeat (first | exact uE | refine uN (by omega) ?_ | assumption | exact hd _ (by omega) | exact hd0 _ (by omega) | fail)
        case hl => first | exact Nat.le_of_ble_eq_true rfl | decide | (simp; done) | (simp; omega) | (first | rfl | (simp; done) | exact imR_len (pgI_len _))
        case hc => first | (simp only [List.set_cons_succ, List.set_cons_zero]; rfl) | rfl
        case hk => omega
        refine runsL_nil ?_
        refine runs_region ?_
        refine rl0 (gn rfl) rfl rfl (step_add rfl (ev_mk rfl) (ev_mk rfl) (w64 (by omega))) trivial ?_
        refine rl0 (gn rfl) rfl rfl (step_mv rfl rfl) trivial ?_
        refine runsL_nil ?_
        have hq0_ : ((pL (sealG b, false) j).map imR) ++ [(V.sc (.int .i64 (pgI (pS (sealG b, false) j)).n) :: (pgI (pS (sealG b, false) j)).p.map bV)] = ((pL (sealG b, false) (j + 1)).map imR) := by (simp [pL] <;> rfl)
        refine ⟨_, _, ?_, sle ?_ (Nat.le_refl _), (j + 1), _, _, rfl, rfl, by omega, (fun k_ hk_ => by repeat (first | exact hf0 k_ hk_ | refine uN (by first | assumption | omega) ?_ | fail)), by first | ((repeat (first | exact uE | assumption | refine uN (by omega) ?_ | fail)); done) | exact tl_eq (by repeat (first | exact uE | assumption | refine uN (by omega) ?_ | fail)) (by first | rfl | (simp [pL, aL]; done) | (simp [pL_len, aL_len]; done)) | (rw [← hq0_]; (repeat (first | exact uE | assumption | refine uN (by omega) ?_ | fail)); done), by first | ((repeat (first | exact uE | assumption | refine uN (by omega) ?_ | fail)); done) | exact tl_eq (by repeat (first | exact uE | assumption | refine uN (by omega) ?_ | fail)) (by first | rfl | (simp [pL, aL]; done) | (simp [pL_len, aL_len]; done)) | (rw [← hq0_]; (repeat (first | exact uE | assumption | refine uN (by omega) ?_ | fail)); done), by first | ((repeat (first | exact uE | assumption | refine uN (by omega) ?_ | fail)); done) | exact tl_eq (by repeat (first | exact uE | assumption | refine uN (by omega) ?_ | fail)) (by first | rfl | (simp [pL, aL]; done) | (simp [pL_len, aL_len]; done)) | (rw [← hq0_]; (repeat (first | exact uE | assumption | refine uN (by omega) ?_ | fail)); done), by first | ((repeat (first | exact uE | assumption | refine uN (by omega) ?_ | fail)); done) | exact tl_eq (by repeat (first | exact uE | assumption | refine uN (by omega) ?_ | fail)) (by first | rfl | (simp [pL, aL]; done) | (simp [pL_len, aL_len]; done)) | (rw [← hq0_]; (repeat (first | exact uE | assumption | refine uN (by omega) ?_ | fail)); done), by first | ((repeat (first | exact uE | assumption | refine uN (by omega) ?_ | fail)); done) | exact tl_eq (by repeat (first | exact uE | assumption | refine uN (by omega) ?_ | fail)) (by first | rfl | (simp [pL, aL]; done) | (simp [pL_len, aL_len]; done)) | (rw [← hq0_]; (repeat (first | exact uE | assumption | refine uN (by omega) ?_ | fail)); done), by omega, fun i hi => by (rcases Nat.lt_succ_iff_lt_or_eq.mp hi with h_ | h_); exact hF0_1 i h_; (subst h_; first | assumption | (simpa using (by assumption : (!pgOK (pS (sealG b, false) i)) = false)))⟩
        · omega
        · (repeat' (first | exact trivial | refine ⟨⟨_, rfl, ?_⟩, ?_⟩ | fail)); all_goals (repeat' (first | exact VLe.refl _ | exact VLe.own_sl _ _ _ | exact VLe.fl_sl _ _ | exact VLe.nil_sl _ | exact VLe.nil_fl _ | exact VLes.refl _ | exact .nil | refine VLe.tup ?_ | refine VLe.agg ?_ | refine .cons ?_ ?_ | (rw [Int.natCast_add]; exact VLe.refl _) | exact vle_int (by omega) | exact vle_bool (by first | rfl | assumption | (simp_all; done)) | (rw [← hq0_]; exact VLe.refl _) | (rw [hq0_]; exact VLe.refl _) | fail))
    · skip
      obtain rfl : j = (eK (sealG b, false)).toNat := by omega
      refine runsL_nil ?_
      refine runs_seq ?_
      refine runs_cond false (ev_mk rfl) (fun h_ => nomatch h_) (fun _ => ?_)
      refine runs_exit ?_
      refine runs_seq ?_
      refine runs_seq ?_
      refine runs_region ?_
      refine rl0 (gn rfl) rfl rfl (step_mv rfl rfl) trivial ?_
      refine rl1 (gn rfl) rfl rfl (step_callc rfl Try.func29 rfl rfl rfl (num_e (n + 2) (e8 (sealG b, false)) (aS (sealG b, false) 0) (sp _) 1 (by omega) rfl (eM (sealG b, false)) rfl) (by repeat (first | exact .nil | refine .cons ?_ ?_ | exact VLe.refl _ | exact VLe.own_sl _ _ _ | exact VLe.fl_sl _ _ | exact VLe.nil_sl _ | exact VLe.nil_fl _ | refine VLe.agg ?_))) ⟨by repeat (first | exact uE | refine uN (by omega) ?_ | assumption | exact hd _ (by omega) | exact hd0 _ (by omega) | fail), trivial⟩ (by omega) ?_
      refine rl0 (gn rfl) rfl rfl (step_conv_id rfl rfl Try.underlying22 Try.underlying3 (w64 (by exact ⟨Int.le_trans (by decide) vM.1, Int.le_of_lt (Int.lt_trans vM.2 (by decide))⟩))) trivial ?_
      refine rl0 (gn rfl) rfl rfl (step_mv rfl rfl) trivial ?_
      refine runsL_nil ?_
      refine runs_block ?_
      refine runs_loop (fun (ri_ : Nat) (st_ : Go.Vm.S) => ∃ (w : Nat) (m1 : Nat) (b1 : Nat → Box), (st_ = ⟨mk [(2, .ref (n + 0) 0), (3, .ref (n + 1) 0), (5, .ref (n + 2) 0), (66, .sc (.int .i64 (eM (sealG b, false)))), (67, .sc (.int .i64 w))], m1, b1⟩) ∧ (ri_ = (eM (sealG b, false)).toNat - w) ∧ (m0 + 0 ≤ m1) ∧ (∀ k_, k_ < n → b1 k_ = X0.bx k_) ∧ (b1 (n + 0) = .cells [.sc (.int .u64 (rN (e1 (sealG b, false)) 8)), .sc (.int .i64 (rN (sealG b, false) 1)), .sc (.int .u64 (rN (e2 (sealG b, false)) 8)), .sc (.int .u64 (rN (e3 (sealG b, false)) 8)), .sc (.int .u64 (rN (e4 (sealG b, false)) 8)), .sc (.int .u64 (rrV (e5 (sealG b, false))).id), .sc (.int .u64 (rrV (e5 (sealG b, false))).key), .sc (.int .u32 (rrV (e5 (sealG b, false))).x), .sc (.int .u32 (rrV (e5 (sealG b, false))).y), .sc (.string (rrV (e5 (sealG b, false))).val), .sc (.bool (rrV (e5 (sealG b, false))).gh), .own 225 ((pL (sealG b, false) (eK (sealG b, false)).toNat).map imR) (n + 3), .own 1 ((aL (sealG b, false) w).map acR) (n + 4)]) ∧ (b1 (n + 1) = .cells [.sc (.int .i64 0)]) ∧ (b1 (n + 2) = .cells [.sl 1 (bytesV (aS (sealG b, false) w).1), .sc (.bool (aS (sealG b, false) w).2)]) ∧ (b1 (n + 3) = .tail ((pL (sealG b, false) (eK (sealG b, false)).toNat).map imR).length) ∧ (b1 (n + 4) = .tail ((aL (sealG b, false) w).map acR).length) ∧ ((w : Int) ≤ eM (sealG b, false))) ((eM (sealG b, false)).toNat - 0) ⟨_, sle ?_ (Nat.le_refl _), 0, _, _, rfl, rfl, ?_⟩ ?_
      · (repeat' (first | exact trivial | refine ⟨⟨_, rfl, ?_⟩, ?_⟩ | fail)); all_goals (repeat' (first | exact VLe.refl _ | exact VLe.own_sl _ _ _ | exact VLe.fl_sl _ _ | exact VLe.nil_sl _ | exact VLe.nil_fl _ | exact VLes.refl _ | exact .nil | refine VLe.tup ?_ | refine VLe.agg ?_ | refine .cons ?_ ?_ | (rw [Int.natCast_add]; exact VLe.refl _) | exact vle_int (by omega) | exact vle_bool (by first | rfl | assumption | (simp_all; done)) | fail))
      · exact ⟨by omega, (fun k_ hk_ => by repeat (first | exact rfl | refine uN (by omega) ?_ | assumption | exact hf0 _ (by omega) | fail)), by first | ((repeat (first | exact uE | assumption | refine uN (by omega) ?_ | fail)); done) | exact tl_eq (by repeat (first | exact uE | assumption | refine uN (by omega) ?_ | fail)) (by first | rfl | (simp [pL, aL]; done) | (simp [pL_len, aL_len]; done)), by first | ((repeat (first | exact uE | assumption | refine uN (by omega) ?_ | fail)); done) | exact tl_eq (by repeat (first | exact uE | assumption | refine uN (by omega) ?_ | fail)) (by first | rfl | (simp [pL, aL]; done) | (simp [pL_len, aL_len]; done)), by first | ((repeat (first | exact uE | assumption | refine uN (by omega) ?_ | fail)); done) | exact tl_eq (by repeat (first | exact uE | assumption | refine uN (by omega) ?_ | fail)) (by first | rfl | (simp [pL, aL]; done) | (simp [pL_len, aL_len]; done)), by first | ((repeat (first | exact uE | assumption | refine uN (by omega) ?_ | fail)); done) | exact tl_eq (by repeat (first | exact uE | assumption | refine uN (by omega) ?_ | fail)) (by first | rfl | (simp [pL, aL]; done) | (simp [pL_len, aL_len]; done)), by first | ((repeat (first | exact uE | assumption | refine uN (by omega) ?_ | fail)); done) | exact tl_eq (by repeat (first | exact uE | assumption | refine uN (by omega) ?_ | fail)) (by first | rfl | (simp [pL, aL]; done) | (simp [pL_len, aL_len]; done)), by omega⟩
      · rintro _ _ ⟨w, m1, b1, rfl, rfl, hm1, hf1, hB1_0, hB1_1, hB1_2, hB1_3, hB1_4, hF1_0⟩
        refine runs_know (fun hd1 => ?_)
        refine runs_bump 20 ?_
        simp only at hd1
        refine runs_seq ?_
        refine runs_region ?_
        refine rl_lss (gn rfl) rfl rfl rfl rfl rfl (fun h2 => ?_) (fun h2 => ?_)
        · skip
          refine runsL_nil ?_
          refine runs_seq ?_
          refine runs_cond true (ev_mk rfl) (fun _ => ?_) (fun h_ => nomatch h_)
          refine runs_skip ?_
          refine runs_seq ?_
          refine runs_block ?_
          refine runs_draw (by kernel_rfl) (by kernel_rfl) (by kernel_rfl) ?_
          refine dl0 (gn rfl) rfl rfl (step_fieldAddr (off := 12) rfl (ev_mk rfl) Try.underlying29 rfl F.sz27 rfl) trivial ?_
          refine' dl0 (gn rfl) rfl rfl (step_load_one rfl (ev_mk rfl) F.one27 ?hv) ⟨?hb, trivial⟩ ?_
          case hb => repeat (first | exact uE | refine uN (by omega) ?_ | assumption | exact hd _ (by omega) | exact hd0 _ (by omega) | exact hd1 _ (by omega) | fail)
          case hv => rfl
          refine dl0 (gn rfl) rfl rfl (step_mv rfl rfl) trivial ?_
          refine dl1 (gn rfl) rfl rfl (step_callc rfl Try.func29 rfl rfl rfl (num_e (n + 2) (aS (sealG b, false) w) (aS (sealG b, false) (w + 1)) (sa w) 8 (by omega) rfl (rN (aS (sealG b, false) w) 8) rfl) (by repeat (first | exact .nil | refine .cons ?_ ?_ | exact VLe.refl _ | exact VLe.own_sl _ _ _ | exact VLe.fl_sl _ _ | exact VLe.nil_sl _ | exact VLe.nil_fl _ | refine VLe.agg ?_))) ⟨by repeat (first | exact uE | refine uN (by omega) ?_ | assumption | exact hd _ (by omega) | exact hd0 _ (by omega) | exact hd1 _ (by omega) | fail), trivial⟩ (by omega) ?_
          refine dl0 (gn rfl) rfl rfl (step_lit rfl Try.underlying27 F.sz22 F.zero22 (by first | rfl | simp) (by first | rfl | simp | decide) (by decide) rfl rfl (by first | (simp [V.cs, V.stor, oneV]; done) | (simp [V.cs, V.stor, oneV, imR, pgI_len, bV])) rfl) trivial ?_
          refine' dl1 (gn rfl) rfl rfl (step_append_own rfl rfl rfl Try.underlying27 ⟨_, Try.underlying27, fun k_ => by intro h_; cases h_⟩ F.el22 (ev_mk rfl) (ev_mk rfl) (gives_sl (.inr (.inl rfl))) ?hg) ⟨?hb, trivial⟩ (by omega) ?_
          case hb => repeat (first | exact uE | refine uN (by omega) ?_ | assumption | exact hd _ (by omega) | exact hd0 _ (by omega) | exact hd1 _ (by omega) | fail)
          case hg => first | (simp [pL_len, aL_len]; done) | (simp [pL_len, aL_len]; omega)
          refine dl0 (gn rfl) rfl rfl (step_fieldAddr (off := 12) rfl (ev_mk rfl) Try.underlying29 rfl F.sz27 rfl) trivial ?_
          refine' dls (gn rfl) rfl (step_store1 rfl rfl rfl rfl F.one27 rfl rfl ?hl ?hc) ⟨?hb, trivial⟩ ?hk ?_
          case hb => repeat (first | exact uE | refine uN (by omega) ?_ | assumption | exact hd _ (by omega) | exact hd0 _ (by omega) | exact hd1 _ (by omega) | fail)
          case hl => first | exact Nat.le_of_ble_eq_true rfl | decide | (simp; done) | (simp; omega) | (first | rfl | (simp; done) | exact imR_len (pgI_len _))
          case hc => first | (simp only [List.set_cons_succ, List.set_cons_zero]; rfl) | rfl
          case hk => omega
          refine dlnil ?_ ?_
          · repeat' (first | exact trivial | exact .inr (ap0 _ _ _ _) | exact .inr (ap2 _ _ _ _) | exact .inr (ap3 _ _ _ _) | exact .inr ⟨by first | (simp; done) | (simp; omega), by first | (simp; done) | (simp; omega)⟩ | exact .inl (by kernel_rfl) | refine ⟨?_, ?_⟩ | fail)
          refine runs_region ?_
          refine rl0 (gn rfl) rfl rfl (step_add rfl (ev_mk rfl) (ev_mk rfl) (w64 (by omega))) trivial ?_
          refine rl0 (gn rfl) rfl rfl (step_mv rfl rfl) trivial ?_
          refine runsL_nil ?_
          have hq0_ : ((aL (sealG b, false) w).map acR) ++ [[V.sc (.int .u64 (rN (aS (sealG b, false) w) 8))]] = ((aL (sealG b, false) (w + 1)).map acR) := by (simp [aL] <;> rfl)
          refine ⟨_, _, ?_, sle ?_ (Nat.le_refl _), (w + 1), _, _, rfl, rfl, by omega, (fun k_ hk_ => by repeat (first | exact hf1 k_ hk_ | exact hf0 k_ hk_ | refine uN (by first | assumption | omega) ?_ | fail)), by first | ((repeat (first | exact uE | assumption | refine uN (by omega) ?_ | fail)); done) | exact tl_eq (by repeat (first | exact uE | assumption | refine uN (by omega) ?_ | fail)) (by first | rfl | (simp [pL, aL]; done) | (simp [pL_len, aL_len]; done)) | (rw [← hq0_]; (repeat (first | exact uE | assumption | refine uN (by omega) ?_ | fail)); done), by first | ((repeat (first | exact uE | assumption | refine uN (by omega) ?_ | fail)); done) | exact tl_eq (by repeat (first | exact uE | assumption | refine uN (by omega) ?_ | fail)) (by first | rfl | (simp [pL, aL]; done) | (simp [pL_len, aL_len]; done)) | (rw [← hq0_]; (repeat (first | exact uE | assumption | refine uN (by omega) ?_ | fail)); done), by first | ((repeat (first | exact uE | assumption | refine uN (by omega) ?_ | fail)); done) | exact tl_eq (by repeat (first | exact uE | assumption | refine uN (by omega) ?_ | fail)) (by first | rfl | (simp [pL, aL]; done) | (simp [pL_len, aL_len]; done)) | (rw [← hq0_]; (repeat (first | exact uE | assumption | refine uN (by omega) ?_ | fail)); done), by first | ((repeat (first | exact uE | assumption | refine uN (by omega) ?_ | fail)); done) | exact tl_eq (by repeat (first | exact uE | assumption | refine uN (by omega) ?_ | fail)) (by first | rfl | (simp [pL, aL]; done) | (simp [pL_len, aL_len]; done)) | (rw [← hq0_]; (repeat (first | exact uE | assumption | refine uN (by omega) ?_ | fail)); done), by first | ((repeat (first | exact uE | assumption | refine uN (by omega) ?_ | fail)); done) | exact tl_eq (by repeat (first | exact uE | assumption | refine uN (by omega) ?_ | fail)) (by first | rfl | (simp [pL, aL]; done) | (simp [pL_len, aL_len]; done)) | (rw [← hq0_]; (repeat (first | exact uE | assumption | refine uN (by omega) ?_ | fail)); done), by omega⟩
          · omega
          · (repeat' (first | exact trivial | refine ⟨⟨_, rfl, ?_⟩, ?_⟩ | fail)); all_goals (repeat' (first | exact VLe.refl _ | exact VLe.own_sl _ _ _ | exact VLe.fl_sl _ _ | exact VLe.nil_sl _ | exact VLe.nil_fl _ | exact VLes.refl _ | exact .nil | refine VLe.tup ?_ | refine VLe.agg ?_ | refine .cons ?_ ?_ | (rw [Int.natCast_add]; exact VLe.refl _) | exact vle_int (by omega) | exact vle_bool (by first | rfl | assumption | (simp_all; done)) | (rw [← hq0_]; exact VLe.refl _) | (rw [hq0_]; exact VLe.refl _) | fail))
        · skip
          obtain rfl : w = (eM (sealG b, false)).toNat := by omega
          refine runsL_nil ?_
          refine runs_seq ?_
          refine runs_cond false (ev_mk rfl) (fun h_ => nomatch h_) (fun _ => ?_)
          refine runs_exit ?_
          refine runs_seq ?_
          refine runs_seq ?_
          refine runs_region ?_
          refine rl0 (gn rfl) rfl rfl (step_mv rfl rfl) trivial ?_
          refine rl0 (gn rfl) rfl rfl (step_callc rfl Try.func31 rfl rfl rfl (right_c (n + 2) (e9 (sealG b, false)).1 (e9 (sealG b, false)).2) (by repeat (first | exact .nil | refine .cons ?_ ?_ | exact VLe.refl _ | exact VLe.own_sl _ _ _ | exact VLe.fl_sl _ _ | exact VLe.nil_sl _ | exact VLe.nil_fl _ | refine VLe.agg ?_))) ⟨by repeat (first | exact uE | refine uN (by omega) ?_ | assumption | exact hd _ (by omega) | exact hd0 _ (by omega) | exact hd1 _ (by omega) | fail), trivial⟩ ?_
          refine rl0 (gn rfl) rfl rfl (step_unOp rfl (ev_mk rfl) (fun _ => rfl)) trivial ?_
          refine rl0 (gn rfl) rfl rfl (step_mv rfl rfl) trivial ?_
          refine rl_bool (d := 80) rfl (fun h3 => ?_) (fun h3 => ?_)
          · skip
            refine rlk rfl rfl rfl rfl rfl (ngb rfl rfl) rfl rfl ?_
            refine rlk rfl rfl rfl rfl rfl (ngb rfl rfl) rfl rfl ?_
            refine rlk rfl rfl rfl rfl rfl (ngb rfl rfl) rfl rfl ?_
            refine rl0 (gn rfl) rfl rfl (step_pick rfl (ev_mk rfl) (ev_mk rfl)) trivial ?_
            refine rl0 (gn rfl) rfl rfl (step_mv rfl rfl) trivial ?_
            refine rlk rfl rfl rfl rfl rfl (ngb rfl rfl) rfl rfl ?_
            refine rlk rfl rfl rfl rfl rfl (ngb rfl rfl) rfl rfl ?_
            refine rlk rfl rfl rfl rfl rfl (ngb rfl rfl) rfl rfl ?_
            refine rl0 (gn rfl) rfl rfl (step_pick rfl (ev_mk rfl) (ev_mk rfl)) trivial ?_
            refine runsL_nil ?_
            refine runs_cond true (ev_mk rfl) (fun _ => ?_) (fun h_ => nomatch h_)
            refine runs_seq ?_
            refine runs_region ?_
            refine' rl0 (gn rfl) rfl rfl (step_load_all rfl rfl F.agg29 ?hl) ⟨?hb, trivial⟩ ?_
            case hb => repeat (first | exact uE | refine uN (by omega) ?_ | assumption | exact hd _ (by omega) | exact hd0 _ (by omega) | exact hd1 _ (by omega) | fail)
            case hl => first | rfl | (simp; done) | (first | rfl | (simp; done) | exact imR_len (pgI_len _))
            refine' rls (gn rfl) rfl (step_storeA rfl rfl rfl rfl F.agg29 ?hm ?hl) ⟨?hb, trivial⟩ ?hk ?_
            case hb => repeat (first | exact uE | refine uN (by omega) ?_ | assumption | exact hd _ (by omega) | exact hd0 _ (by omega) | exact hd1 _ (by omega) | fail)
            case hm => first | rfl | (simp; done) | (first | rfl | (simp; done) | exact imR_len (pgI_len _))
            case hl => first | rfl | (simp; done) | (first | rfl | (simp; done) | exact imR_len (pgI_len _))
            case hk => omega
            refine' rls (gn rfl) rfl (step_store1 rfl rfl rfl rfl F.one33 rfl rfl ?hl ?hc) ⟨?hb, trivial⟩ ?hk ?_
            case hb => repeat (first | exact uE | refine uN (by omega) ?_ | assumption | exact hd _ (by omega) | exact hd0 _ (by omega) | exact hd1 _ (by omega) | fail)
            case hl => first | exact Nat.le_of_ble_eq_true rfl | decide | (simp; done) | (simp; omega) | (first | rfl | (simp; done) | exact imR_len (pgI_len _))
            case hc => first | (simp only [List.set_cons_succ, List.set_cons_zero]; rfl) | rfl
            case hk => omega
            refine runsL_nil ?_
            refine runs_ret ?_
            refine ⟨rfl, _, _, d28_1 (n + 1) (n + 0) 3 (by decide) (by omega) [.sc (.int .u64 (rN (e1 (sealG b, false)) 8)), .sc (.int .i64 (rN (sealG b, false) 1)), .sc (.int .u64 (rN (e2 (sealG b, false)) 8)), .sc (.int .u64 (rN (e3 (sealG b, false)) 8)), .sc (.int .u64 (rN (e4 (sealG b, false)) 8)), .sc (.int .u64 (rrV (e5 (sealG b, false))).id), .sc (.int .u64 (rrV (e5 (sealG b, false))).key), .sc (.int .u32 (rrV (e5 (sealG b, false))).x), .sc (.int .u32 (rrV (e5 (sealG b, false))).y), .sc (.string (rrV (e5 (sealG b, false))).val), .sc (.bool (rrV (e5 (sealG b, false))).gh), .own 225 ((pL (sealG b, false) (eK (sealG b, false)).toNat).map imR) (n + 3), .own 1 ((aL (sealG b, false) (eM (sealG b, false)).toNat).map acR) (n + 4)] (by first | rfl | (simp; done)), (by intro p_ hp_; simp only [List.mem_cons, List.not_mem_nil, or_false] at hp_; (first | (cases hp_; done) | (rcases hp_ with rfl | rfl) | rcases hp_ with rfl) <;> (repeat (first | exact uE | refine uN (by omega) ?_ | assumption | exact hd _ (by omega) | exact hd0 _ (by omega) | exact hd1 _ (by omega) | fail))), (by intro p_ hp_; first | (cases hp_; done) | (simp only [List.mem_cons, List.not_mem_nil, or_false] at hp_; (first | (rcases hp_ with rfl | rfl) | rcases hp_ with rfl) <;> (simp only; omega))), ?_⟩
            simp only [upds]
            refine fin_mkg (resc rfl (by repeat (first | exact uE | refine uN (by omega) ?_ | assumption | exact hd _ (by omega) | exact hd0 _ (by omega) | exact hd1 _ (by omega) | fail)) F.agg29 (by first | rfl | (simp; done) | (first | rfl | (simp; done) | exact imR_len (pgI_len _))) (resc1 rfl (by repeat (first | exact uE | refine uN (by omega) ?_ | assumption | exact hd _ (by omega) | exact hd0 _ (by omega) | exact hd1 _ (by omega) | fail)) F.one33 rfl res0)) ?_ ?_ ?_ ?_ ?_
            · (repeat' (first | exact VLe.refl _ | exact VLe.own_sl _ _ _ | exact VLe.fl_sl _ _ | exact VLe.nil_sl _ | exact VLe.nil_fl _ | exact VLes.refl _ | exact .nil | refine VLe.tup ?_ | refine VLe.agg ?_ | refine .cons ?_ ?_ | (rw [Int.natCast_add]; exact VLe.refl _) | exact vle_int (by omega) | exact vle_bool (by first | rfl | assumption | (simp_all; done)) | fail))
            · first | (exact ⟨bd_en _ _, trivial, trivial⟩; done) | (repeat (first | exact trivial | assumption | omega | (refine bdR_map (fun _ => ?_)) | (refine bdL_map (fun _ => ?_)) | refine ⟨?_, ?_⟩ | fail))
            · intro k_ hk_; exact ble (by repeat (first | exact rfl | refine uN (by omega) ?_ | assumption | exact hf0 _ (by omega) | exact hf1 _ (by omega) | fail))
            · intro p hp; cases hp
            · first | (exact ⟨bd_en _ _, trivial, trivial⟩; done) | (repeat (first | exact trivial | assumption | omega | (refine bdR_map (fun _ => ?_)) | (refine bdL_map (fun _ => ?_)) | refine ⟨?_, ?_⟩ | fail))
          · skip
            refine rl0 (gy rfl rfl rfl rfl rfl rfl) rfl rfl (step_mv rfl rfl) trivial ?_
            refine rl0 (gy rfl rfl rfl rfl rfl rfl) rfl rfl (step_callc rfl Try.func32 rfl rfl rfl (left_c (n + 2) (e9 (sealG b, false)).1 (e9 (sealG b, false)).2) (by repeat (first | exact .nil | refine .cons ?_ ?_ | exact VLe.refl _ | exact VLe.own_sl _ _ _ | exact VLe.fl_sl _ _ | exact VLe.nil_sl _ | exact VLe.nil_fl _ | refine VLe.agg ?_))) ⟨by repeat (first | exact uE | refine uN (by omega) ?_ | assumption | exact hd _ (by omega) | exact hd0 _ (by omega) | exact hd1 _ (by omega) | fail), trivial⟩ ?_
            refine rl_gtr (gy rfl rfl rfl rfl rfl rfl) rfl rfl rfl rfl rfl (fun h4 => ?_) (fun h4 => ?_)
            · skip
              refine rl0 (gn rfl) rfl rfl (step_pick rfl (ev_mk rfl) (ev_mk rfl)) trivial ?_
              refine rl0 (gn rfl) rfl rfl (step_mv rfl rfl) trivial ?_
              refine rlk rfl rfl rfl rfl rfl (ngb rfl rfl) rfl rfl ?_
              refine rlk rfl rfl rfl rfl rfl (ngb rfl rfl) rfl rfl ?_
              refine rlk rfl rfl rfl rfl rfl (ngb rfl rfl) rfl rfl ?_
              refine rl0 (gn rfl) rfl rfl (step_pick rfl (ev_mk rfl) (ev_mk rfl)) trivial ?_
              refine runsL_nil ?_
              refine runs_cond true (ev_mk rfl) (fun _ => ?_) (fun h_ => nomatch h_)
              refine runs_seq ?_
              refine runs_region ?_
              refine' rl0 (gn rfl) rfl rfl (step_load_all rfl rfl F.agg29 ?hl) ⟨?hb, trivial⟩ ?_
              case hb => repeat (first | exact uE | refine uN (by omega) ?_ | assumption | exact hd _ (by omega) | exact hd0 _ (by omega) | exact hd1 _ (by omega) | fail)
              case hl => first | rfl | (simp; done) | (first | rfl | (simp; done) | exact imR_len (pgI_len _))
              refine' rls (gn rfl) rfl (step_storeA rfl rfl rfl rfl F.agg29 ?hm ?hl) ⟨?hb, trivial⟩ ?hk ?_
              case hb => repeat (first | exact uE | refine uN (by omega) ?_ | assumption | exact hd _ (by omega) | exact hd0 _ (by omega) | exact hd1 _ (by omega) | fail)
              case hm => first | rfl | (simp; done) | (first | rfl | (simp; done) | exact imR_len (pgI_len _))
              case hl => first | rfl | (simp; done) | (first | rfl | (simp; done) | exact imR_len (pgI_len _))
              case hk => omega
              refine' rls (gn rfl) rfl (step_store1 rfl rfl rfl rfl F.one33 rfl rfl ?hl ?hc) ⟨?hb, trivial⟩ ?hk ?_
              case hb => repeat (first | exact uE | refine uN (by omega) ?_ | assumption | exact hd _ (by omega) | exact hd0 _ (by omega) | exact hd1 _ (by omega) | fail)
              case hl => first | exact Nat.le_of_ble_eq_true rfl | decide | (simp; done) | (simp; omega) | (first | rfl | (simp; done) | exact imR_len (pgI_len _))
              case hc => first | (simp only [List.set_cons_succ, List.set_cons_zero]; rfl) | rfl
              case hk => omega
              refine runsL_nil ?_
              refine runs_ret ?_
              refine ⟨rfl, _, _, d28_1 (n + 1) (n + 0) 3 (by decide) (by omega) [.sc (.int .u64 (rN (e1 (sealG b, false)) 8)), .sc (.int .i64 (rN (sealG b, false) 1)), .sc (.int .u64 (rN (e2 (sealG b, false)) 8)), .sc (.int .u64 (rN (e3 (sealG b, false)) 8)), .sc (.int .u64 (rN (e4 (sealG b, false)) 8)), .sc (.int .u64 (rrV (e5 (sealG b, false))).id), .sc (.int .u64 (rrV (e5 (sealG b, false))).key), .sc (.int .u32 (rrV (e5 (sealG b, false))).x), .sc (.int .u32 (rrV (e5 (sealG b, false))).y), .sc (.string (rrV (e5 (sealG b, false))).val), .sc (.bool (rrV (e5 (sealG b, false))).gh), .own 225 ((pL (sealG b, false) (eK (sealG b, false)).toNat).map imR) (n + 3), .own 1 ((aL (sealG b, false) (eM (sealG b, false)).toNat).map acR) (n + 4)] (by first | rfl | (simp; done)), (by intro p_ hp_; simp only [List.mem_cons, List.not_mem_nil, or_false] at hp_; (first | (cases hp_; done) | (rcases hp_ with rfl | rfl) | rcases hp_ with rfl) <;> (repeat (first | exact uE | refine uN (by omega) ?_ | assumption | exact hd _ (by omega) | exact hd0 _ (by omega) | exact hd1 _ (by omega) | fail))), (by intro p_ hp_; first | (cases hp_; done) | (simp only [List.mem_cons, List.not_mem_nil, or_false] at hp_; (first | (rcases hp_ with rfl | rfl) | rcases hp_ with rfl) <;> (simp only; omega))), ?_⟩
              simp only [upds]
              refine fin_mkg (resc rfl (by repeat (first | exact uE | refine uN (by omega) ?_ | assumption | exact hd _ (by omega) | exact hd0 _ (by omega) | exact hd1 _ (by omega) | fail)) F.agg29 (by first | rfl | (simp; done) | (first | rfl | (simp; done) | exact imR_len (pgI_len _))) (resc1 rfl (by repeat (first | exact uE | refine uN (by omega) ?_ | assumption | exact hd _ (by omega) | exact hd0 _ (by omega) | exact hd1 _ (by omega) | fail)) F.one33 rfl res0)) ?_ ?_ ?_ ?_ ?_
              · (repeat' (first | exact VLe.refl _ | exact VLe.own_sl _ _ _ | exact VLe.fl_sl _ _ | exact VLe.nil_sl _ | exact VLe.nil_fl _ | exact VLes.refl _ | exact .nil | refine VLe.tup ?_ | refine VLe.agg ?_ | refine .cons ?_ ?_ | (rw [Int.natCast_add]; exact VLe.refl _) | exact vle_int (by omega) | exact vle_bool (by first | rfl | assumption | (simp_all; done)) | fail))
              · first | (exact ⟨bd_en _ _, trivial, trivial⟩; done) | (repeat (first | exact trivial | assumption | omega | (refine bdR_map (fun _ => ?_)) | (refine bdL_map (fun _ => ?_)) | refine ⟨?_, ?_⟩ | fail))
              · intro k_ hk_; exact ble (by repeat (first | exact rfl | refine uN (by omega) ?_ | assumption | exact hf0 _ (by omega) | exact hf1 _ (by omega) | fail))
              · intro p hp; cases hp
              · first | (exact ⟨bd_en _ _, trivial, trivial⟩; done) | (repeat (first | exact trivial | assumption | omega | (refine bdR_map (fun _ => ?_)) | (refine bdL_map (fun _ => ?_)) | refine ⟨?_, ?_⟩ | fail))
            · skip
              refine rl0 (gn rfl) rfl rfl (step_pick rfl (ev_mk rfl) (ev_mk rfl)) trivial ?_
              refine rl0 (gn rfl) rfl rfl (step_mv rfl rfl) trivial ?_
              refine' rl0 (gy rfl rfl rfl rfl rfl rfl) rfl rfl (step_load_all rfl rfl F.agg29 ?hl) ⟨?hb, trivial⟩ ?_
              case hb => repeat (first | exact uE | refine uN (by omega) ?_ | assumption | exact hd _ (by omega) | exact hd0 _ (by omega) | exact hd1 _ (by omega) | fail)
              case hl => first | rfl | (simp; done) | (first | rfl | (simp; done) | exact imR_len (pgI_len _))
              refine rl0 (gy rfl rfl rfl rfl rfl rfl) rfl rfl (step_callc rfl Try.func11 rfl rfl rfl (check_c (gEn (sealG b, false)) (by rw [show (gEn (sealG b, false)).pages = pL (sealG b, false) (eK (sealG b, false)).toNat from rfl, show (gEn (sealG b, false)).act = aL (sealG b, false) (eM (sealG b, false)).toNat from rfl, pL_len, aL_len]; omega) (pL_pg _ _)) (by repeat (first | exact .nil | refine .cons ?_ ?_ | exact VLe.refl _ | exact VLe.own_sl _ _ _ | exact VLe.fl_sl _ _ | exact VLe.nil_sl _ | exact VLe.nil_fl _ | refine VLe.agg ?_))) trivial ?_
              refine rl_neq (gy rfl rfl rfl rfl rfl rfl) rfl rfl rfl rfl rfl (fun h5 => ?_) (fun h5 => ?_)
              · skip
                refine rl0 (gn rfl) rfl rfl (step_pick rfl (ev_mk rfl) (ev_mk rfl)) trivial ?_
                refine runsL_nil ?_
                refine runs_cond true (ev_mk rfl) (fun _ => ?_) (fun h_ => nomatch h_)
                refine runs_seq ?_
                refine runs_region ?_
                refine' rl0 (gn rfl) rfl rfl (step_load_all rfl rfl F.agg29 ?hl) ⟨?hb, trivial⟩ ?_
                case hb => repeat (first | exact uE | refine uN (by omega) ?_ | assumption | exact hd _ (by omega) | exact hd0 _ (by omega) | exact hd1 _ (by omega) | fail)
                case hl => first | rfl | (simp; done) | (first | rfl | (simp; done) | exact imR_len (pgI_len _))
                refine' rls (gn rfl) rfl (step_storeA rfl rfl rfl rfl F.agg29 ?hm ?hl) ⟨?hb, trivial⟩ ?hk ?_
                case hb => repeat (first | exact uE | refine uN (by omega) ?_ | assumption | exact hd _ (by omega) | exact hd0 _ (by omega) | exact hd1 _ (by omega) | fail)
                case hm => first | rfl | (simp; done) | (first | rfl | (simp; done) | exact imR_len (pgI_len _))
                case hl => first | rfl | (simp; done) | (first | rfl | (simp; done) | exact imR_len (pgI_len _))
                case hk => omega
                refine' rls (gn rfl) rfl (step_store1 rfl rfl rfl rfl F.one33 rfl rfl ?hl ?hc) ⟨?hb, trivial⟩ ?hk ?_
                case hb => repeat (first | exact uE | refine uN (by omega) ?_ | assumption | exact hd _ (by omega) | exact hd0 _ (by omega) | exact hd1 _ (by omega) | fail)
                case hl => first | exact Nat.le_of_ble_eq_true rfl | decide | (simp; done) | (simp; omega) | (first | rfl | (simp; done) | exact imR_len (pgI_len _))
                case hc => first | (simp only [List.set_cons_succ, List.set_cons_zero]; rfl) | rfl
                case hk => omega
                refine runsL_nil ?_
                refine runs_ret ?_
                refine ⟨rfl, _, _, d28_1 (n + 1) (n + 0) 3 (by decide) (by omega) [.sc (.int .u64 (rN (e1 (sealG b, false)) 8)), .sc (.int .i64 (rN (sealG b, false) 1)), .sc (.int .u64 (rN (e2 (sealG b, false)) 8)), .sc (.int .u64 (rN (e3 (sealG b, false)) 8)), .sc (.int .u64 (rN (e4 (sealG b, false)) 8)), .sc (.int .u64 (rrV (e5 (sealG b, false))).id), .sc (.int .u64 (rrV (e5 (sealG b, false))).key), .sc (.int .u32 (rrV (e5 (sealG b, false))).x), .sc (.int .u32 (rrV (e5 (sealG b, false))).y), .sc (.string (rrV (e5 (sealG b, false))).val), .sc (.bool (rrV (e5 (sealG b, false))).gh), .own 225 ((pL (sealG b, false) (eK (sealG b, false)).toNat).map imR) (n + 3), .own 1 ((aL (sealG b, false) (eM (sealG b, false)).toNat).map acR) (n + 4)] (by first | rfl | (simp; done)), (by intro p_ hp_; simp only [List.mem_cons, List.not_mem_nil, or_false] at hp_; (first | (cases hp_; done) | (rcases hp_ with rfl | rfl) | rcases hp_ with rfl) <;> (repeat (first | exact uE | refine uN (by omega) ?_ | assumption | exact hd _ (by omega) | exact hd0 _ (by omega) | exact hd1 _ (by omega) | fail))), (by intro p_ hp_; first | (cases hp_; done) | (simp only [List.mem_cons, List.not_mem_nil, or_false] at hp_; (first | (rcases hp_ with rfl | rfl) | rcases hp_ with rfl) <;> (simp only; omega))), ?_⟩
                simp only [upds]
                refine fin_mkg (resc rfl (by repeat (first | exact uE | refine uN (by omega) ?_ | assumption | exact hd _ (by omega) | exact hd0 _ (by omega) | exact hd1 _ (by omega) | fail)) F.agg29 (by first | rfl | (simp; done) | (first | rfl | (simp; done) | exact imR_len (pgI_len _))) (resc1 rfl (by repeat (first | exact uE | refine uN (by omega) ?_ | assumption | exact hd _ (by omega) | exact hd0 _ (by omega) | exact hd1 _ (by omega) | fail)) F.one33 rfl res0)) ?_ ?_ ?_ ?_ ?_
                · (repeat' (first | exact VLe.refl _ | exact VLe.own_sl _ _ _ | exact VLe.fl_sl _ _ | exact VLe.nil_sl _ | exact VLe.nil_fl _ | exact VLes.refl _ | exact .nil | refine VLe.tup ?_ | refine VLe.agg ?_ | refine .cons ?_ ?_ | (rw [Int.natCast_add]; exact VLe.refl _) | exact vle_int (by omega) | exact vle_bool (by first | rfl | assumption | (simp_all; done)) | fail))
                · first | (exact ⟨bd_en _ _, trivial, trivial⟩; done) | (repeat (first | exact trivial | assumption | omega | (refine bdR_map (fun _ => ?_)) | (refine bdL_map (fun _ => ?_)) | refine ⟨?_, ?_⟩ | fail))
                · intro k_ hk_; exact ble (by repeat (first | exact rfl | refine uN (by omega) ?_ | assumption | exact hf0 _ (by omega) | exact hf1 _ (by omega) | fail))
                · intro p hp; cases hp
                · first | (exact ⟨bd_en _ _, trivial, trivial⟩; done) | (repeat (first | exact trivial | assumption | omega | (refine bdR_map (fun _ => ?_)) | (refine bdL_map (fun _ => ?_)) | refine ⟨?_, ?_⟩ | fail))
              · skip
                exact False.elim (by exact hG ⟨hr, fun i hi => hF0_1 i (by omega), by simpa using (by assumption : (!!(e9 (sealG b, false)).2) = false), by omega, by omega⟩)
end Go.Proofs.Ytgfmjipdegkemaa
