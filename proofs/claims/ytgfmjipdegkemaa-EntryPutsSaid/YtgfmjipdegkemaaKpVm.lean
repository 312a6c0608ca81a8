/- Walks by the logic of values. -/
import Derived.Test.YtgfmjipdegkemaaKpVmR
import Derived.Test.YtgfmjipdegkemaaKpVmQ
import Derived.Test.YtgfmjipdegkemaaKpVa
import Derived.Test.YtgfmjipdegkemaaKpVb
import Derived.Test.YtgfmjipdegkemaaKpVd
import Derived.Test.YtgfmjipdegkemaaKpVe
import Derived.Test.YtgfmjipdegkemaaKpVj
import Derived.Test.YtgfmjipdegkemaaKpVl
import Derived.Test.YtgfmjipdegkemaaKpWa
import Derived.Test.YtgfmjipdegkemaaKpWb
import Derived.Test.YtgfmjipdegkemaaKpWc
import Derived.Test.YtgfmjipdegkemaaKpWd
import Derived.Test.YtgfmjipdegkemaaKpWe
import Derived.Test.YtgfmjipdegkemaaKpVmT
import Derived.Test.YtgfmjipdegkemaaKpVmP
namespace Go.Proofs.Ytgfmjipdegkemaa
open Go.Vm
set_option linter.unusedVariables false
set_option linter.unusedSimpArgs false
open Crc
attribute [local irreducible] Go.Vm.beB Go.Vm.fieldB
def e1 (s : List Int × Bool) := rS s 1
def e2 (s : List Int × Bool) := rS (e1 s) 8
def e3 (s : List Int × Bool) := rS (e2 s) 8
def e4 (s : List Int × Bool) := rS (e3 s) 8
def e5 (s : List Int × Bool) := rS (e4 s) 8
def e6 (s : List Int × Bool) := q6 (e5 s)
def e7 (s : List Int × Bool) := rS (e6 s) 1
def eK (s : List Int × Bool) : Int := rN (e6 s) 1
def pS (s : List Int × Bool) : Nat → List Int × Bool
  | 0 => e7 s
  | j + 1 => g3 (pS s j)
def pL (s : List Int × Bool) : Nat → List Im
  | 0 => []
  | j + 1 => pL s j ++ [pgI (pS s j)]
def e8 (s : List Int × Bool) := pS s (eK s).toNat
def eM (s : List Int × Bool) : Int := rN (e8 s) 1
def aS (s : List Int × Bool) : Nat → List Int × Bool
  | 0 => rS (e8 s) 1
  | j + 1 => rS (aS s j) 8
def aL (s : List Int × Bool) : Nat → List Int
  | 0 => []
  | j + 1 => aL s j ++ [rN (aS s j) 8]
def e9 (s : List Int × Bool) := aS s (eM s).toNat
def gEn (s : List Int × Bool) : En := ⟨rN (e1 s) 8, rN s 1, rN (e2 s) 8, rN (e3 s) 8, rN (e4 s) 8, rrV (e5 s), pL s (eK s).toNat, aL s (eM s).toNat⟩
structure GOK (s : List Int × Bool) : Prop where
  r : rrOK (e5 s) = true
  p : ∀ i : Nat, i < (eK s).toNat → pgOK (pS s i) = true
  e : (e9 s).2 = false
  l : (e9 s).1.length = 0
  c : chkF (gEn s) = 0
theorem okS_q6 {s : List Int × Bool} (h : okS s) : okS (q6 s) := ⟨rdX_bytes (okS_rS (okS_rS (okS_rS (okS_rS (okS_rS h 8) 8) 4) 4) 1).1 _ _, Nat.le_trans (rdX_len _ _ _) (okS_rS (okS_rS (okS_rS (okS_rS (okS_rS h 8) 8) 4) 4) 1).2⟩
theorem okS_g3 {s : List Int × Bool} (h : okS s) : okS (g3 s) := okS_rS (okS_rS (okS_rS h 1) 1) _
theorem ok_e5 {s : List Int × Bool} (h : okS s) : okS (e5 s) := okS_rS (okS_rS (okS_rS (okS_rS (okS_rS h 1) 8) 8) 8) 8
theorem ok_pS {s : List Int × Bool} (h : okS s) : ∀ j, okS (pS s j)
  | 0 => okS_rS (okS_q6 (ok_e5 h)) 1
  | j + 1 => okS_g3 (ok_pS h j)
theorem ok_aS {s : List Int × Bool} (h : okS s) : ∀ j, okS (aS s j)
  | 0 => okS_rS (ok_pS h _) 1
  | j + 1 => okS_rS (ok_aS h j) 8
theorem pL_len (s : List Int × Bool) : ∀ j, (pL s j).length = j
  | 0 => rfl
  | j + 1 => by unfold pL; rw [List.length_append, pL_len s j]; rfl
theorem aL_len (s : List Int × Bool) : ∀ j, (aL s j).length = j
  | 0 => rfl
  | j + 1 => by unfold aL; rw [List.length_append, aL_len s j]; rfl
theorem pgI_len (s : List Int × Bool) : (pgI s).p.length = 224 := by
  by_cases h : gE s
  · rw [(pg_E h).1]; exact List.length_replicate
  · rw [(pg_N h).1]; unfold gE at h; show (gB s ++ List.replicate (224 - (gB s).length) 0).length = 224; rw [List.length_append, List.length_replicate]; omega
theorem pL_pg (s : List Int × Bool) : ∀ j, ∀ m ∈ pL s j, m.p.length = 224
  | 0, m, h => by cases h
  | j + 1, m, h => by
    unfold pL at h
    rcases List.mem_append.1 h with h | h
    · exact pL_pg s j m h
    · rw [List.mem_singleton.1 h]; exact pgI_len _
theorem rN_1 {s : List Int × Bool} (h : okS s) : 0 ≤ rN s 1 ∧ rN s 1 < 256 := rN_lt1 h
theorem bd_en (n : Nat) (e : En) : bdL n (enC e) := by
  have hp : ∀ l : List Im, bdR n (l.map imR) := fun l => bdR_map (fun m => ⟨trivial, bdL_map (fun _ => trivial)⟩)
  have ha : ∀ l : List Int, bdR n (l.map acR) := fun l => bdR_map (fun _ => ⟨trivial, trivial⟩)
  exact ⟨trivial, trivial, trivial, trivial, trivial, trivial, trivial, trivial, trivial, trivial, trivial, hp _, ha _, trivial⟩
def zEn : En := ⟨0, 0, 0, 0, 0, zRc, [], []⟩
set_option maxRecDepth 100000 in
set_option maxHeartbeats 4000000 in
theorem d28_0 (a b : Nat) : DoesD Try.prog 28 [.ref a 0, .ref b 0] [(a, .cells [.sc (.int .i64 0)])] [] := by
  refine doesD_mk 40 Try.func28 rfl rfl rfl rfl (fun n B bx hd hpre hup hvs hbx hgx => ?_)
  have hp0 := hpre.1
  have hk0 := lt_cells hd hp0
  refine runs_seq ?_
  refine runs_region ?_
  refine' rl0 (gn rfl) rfl rfl (step_load_one rfl (ev_mk rfl) F.one33 ?hv) ⟨?hb, trivial⟩ ?_
  case hb => repeat (first | exact uE | refine uN (by omega) ?_ | assumption | exact hd _ (by omega) | fail)
  case hv => rfl
  refine rl_neq (gn rfl) rfl rfl rfl rfl rfl (fun h1 => ?_) (fun h1 => ?_)
  · exact False.elim (by omega)
  refine runsL_nil ?_
  refine runs_cond false (ev_mk rfl) (fun h_ => nomatch h_) (fun _ => ?_)
  refine runs_skip ?_
  refine ⟨by first | exact .inr rfl | exact .inl rfl, fin_mkg res0 ?_ ?_ ?_ ?_ ?_⟩
  · (repeat' (first | exact VLe.refl _ | exact VLe.own_sl _ _ _ | exact VLe.fl_sl _ _ | exact VLe.nil_sl _ | exact VLe.nil_fl _ | exact VLes.refl _ | exact .nil | refine VLe.tup ?_ | refine VLe.agg ?_ | refine .cons ?_ ?_ | (rw [Int.natCast_add]; exact VLe.refl _) | exact vle_int (by omega) | exact vle_bool (by first | rfl | assumption | (simp_all; done)) | fail))
  · repeat (first | exact trivial | assumption | omega | (refine bdR_map (fun _ => ?_)) | (refine bdL_map (fun _ => ?_)) | refine ⟨?_, ?_⟩ | fail)
  · intro k_ hk_; exact ble (by repeat (first | exact rfl | refine uN (by omega) ?_ | assumption | fail))
  · intro p hp; cases hp
  · repeat (first | exact trivial | assumption | omega | (refine bdR_map (fun _ => ?_)) | (refine bdL_map (fun _ => ?_)) | refine ⟨?_, ?_⟩ | fail)
theorem num_e (k : Nat) (s t : List Int × Bool) (hs : okS s) (m : Nat) (hm : m = 1 ∨ m = 8) (ht : t = rS s m) (v : Int) (hv : v = rN s m) : Does Try.prog 29 [.ref k 0, .sc (.int .i64 m)] [(k, .cells (rdB s.1 s.2))] [(k, .cells (rdB t.1 t.2))] (.sc (.int .u64 v)) := by
  subst ht hv
  rcases hm with rfl | rfl
  · exact num_g1 k s hs
  · exact num_g8 k s hs
theorem rr_e (k : Nat) (s t : List Int × Bool) (hs : okS s) (h : rrOK s = true) (ht : t = q6 s) : Does Try.prog 18 [.ref k 0] [(k, .cells (rdB s.1 s.2))] [(k, .cells (rdB t.1 t.2))] (.tup [.agg (rcC (rrV s)), .sc (.bool true)]) := by
  subst ht; exact rr_ok k s.1 s.2 hs.1 hs.2 h
theorem page_e (k : Nat) (s t : List Int × Bool) (hs : okS s) (ht : t = g3 s) : Does Try.prog 30 [.ref k 0] [(k, .cells (rdB s.1 s.2))] [(k, .cells (rdB t.1 t.2))] (.tup [.agg (imR (pgI s)), .sc (.bool (pgOK s))]) := by
  subst ht; exact page_c k s.1 s.2 hs.1 hs.2
end Go.Proofs.Ytgfmjipdegkemaa
