import Derived.Test.YtdmkhpnjjpeeaaaKcQq
import Derived.Test.YtdmkhpnjjpeeaaaKcVmP
import Derived.Test.YtdmkhpnjjpeeaaaKcVmT
import Derived.Test.YtdmkhpnjjpeeaaaKcWa
import Derived.Test.YtdmkhpnjjpeeaaaKcWc
import Derived.Test.YtdmkhpnjjpeeaaaKcWd
import Derived.Test.YtdmkhpnjjpeeaaaKcWe
import Derived.Test.YtdmkhpnjjpeeaaaKcVd
import Derived.Test.YtdmkhpnjjpeeaaaKcVe
import Derived.Test.YtdmkhpnjjpeeaaaKcVj
import Derived.Test.YtdmkhpnjjpeeaaaKcVk
import Derived.Test.YtdmkhpnjjpeeaaaKcVn
import Derived.Test.YtdmkhpnjjpeeaaaKcWh
import Derived.Test.YtdmkhpnjjpeeaaaKcVmZ
import Derived.Test.YtdmkhpnjjpeeaaaKcVq
import Derived.Test.YtdmkhpnjjpeeaaaKcVr
import Derived.Test.YtdmkhpnjjpeeaaaKcVt
import Derived.Test.YtdmkhpnjjpeeaaaKcVu
namespace Go.Proofs.Ytdmkhpnjjpeeaaa
open Go.Vm
set_option linter.unusedVariables false
set_option linter.unusedSimpArgs false
open Crc
attribute [local irreducible] Go.Vm.beB
def off (es : List En) : Nat → Nat
  | 0 => 0
  | j + 1 => off es j + wE (at' es (j : Int))
structure LogOK (es : List En) : Prop where
  ok : ∀ e ∈ es, okL e
  lsn : ∀ j : Nat, j < es.length → (at' es (j : Int)).lsn = (off es j : Int) + 1
theorem LogOK.ent {es : List En} (h : LogOK es) {j : Nat} (hj : j < es.length) : okL (at' es (j : Int)) := h.ok _ (at_memE (by omega))
theorem off_mono {es : List En} : ∀ {a b : Nat}, a ≤ b → off es a ≤ off es b
  | a, 0, h => by obtain rfl : a = 0 := by omega
                  exact Nat.le_refl _
  | a, b + 1, h => by
    by_cases e : a = b + 1
    · subst e; exact Nat.le_refl _
    · have := off_mono (es := es) (show a ≤ b by omega); show _ ≤ off es b + _; omega
structure TK (es : List En) (T : List (List Int)) (ok : Nat → Bool) : Prop where
  yes : ∀ j r : Nat, j < es.length → r < wE (at' es (j : Int)) → ok (off es j + r) = true → off es j + r < T.length ∧ at' T ((off es j + r : Nat) : Int) = secA (bE (at' es (j : Int))) (off es j) r
  no : ∀ i : Nat, i < T.length → ok i = false → at' T (i : Int) = List.replicate 64 0
  out : ∀ i : Nat, off es es.length ≤ i → ok i = false
def whJ (es : List En) (ok : Nat → Bool) : Nat → Nat
  | 0 => 0
  | j + 1 => if (List.range (off es (j + 1))).all ok = true then j + 1 else whJ es ok j
theorem whJ_top {es : List En} {ok : Nat → Bool} {j : Nat} (h : ∀ q, q < off es j → ok q = true) : whJ es ok j = j := by
  cases j with
  | zero => rfl
  | succ j => show (if _ then _ else _) = _; rw [if_pos (List.all_eq_true.2 fun q hq => h q (List.mem_range.1 hq))]
theorem whJ_eq {es : List En} {ok : Nat → Bool} {j i : Nat} (h : ∀ q, q < off es j → ok q = true) (hi : ok i = false) (hlt : i < off es (j + 1)) : ∀ {n : Nat}, j ≤ n → whJ es ok n = j
  | 0, hn => by obtain rfl : j = 0 := by omega
                rfl
  | n + 1, hn => by
    by_cases e : j = n + 1
    · subst e; exact whJ_top h
    · show (if _ then _ else _) = _
      rw [if_neg, whJ_eq h hi hlt (by omega)]
      intro ha
      have := List.all_eq_true.1 ha i (List.mem_range.2 (Nat.lt_of_lt_of_le hlt (off_mono (by omega))))
      rw [hi] at this; cases this
structure Jn (es : List En) (ok : Nat → Bool) (i j r : Nat) : Prop where
  jl : j ≤ es.length
  rl : j < es.length → r < wE (at' es (j : Int))
  r0 : j = es.length → r = 0
  atE : i = off es j + r
  al : ∀ q, q < i → ok q = true
theorem Jn.zero {es : List En} {ok : Nat → Bool} (h : LogOK es) : Jn es ok 0 0 0 := ⟨by omega, fun hj => by have := wE_bd (h.ent hj); omega, fun _ => rfl, rfl, fun q hq => by omega⟩
theorem Jn.stop {es : List En} {ok : Nat → Bool} {i j r : Nat} (s : Jn es ok i j r) (h : ok i = false) : whJ es ok es.length = j := by
  have h1 : ∀ q, q < off es j → ok q = true := fun q hq => s.al q (by have := s.atE; omega)
  by_cases e : j = es.length
  · rw [← e]; exact whJ_top h1
  · refine whJ_eq h1 h ?_ s.jl
    have h2 := s.rl (by have := s.jl; omega)
    have h3 := s.atE
    show i < off es j + _; omega
theorem Jn.mid {es : List En} {ok : Nat → Bool} {i j r : Nat} (s : Jn es ok i j r) (h : ok i = true) (hj : j < es.length) (hr : r + 1 < wE (at' es (j : Int))) : Jn es ok (i + 1) j (r + 1) :=
  ⟨s.jl, fun _ => hr, fun e => by omega, by have := s.atE; omega, fun q hq => by
    by_cases e : q = i
    · subst e; exact h
    · exact s.al q (by omega)⟩
theorem Jn.last {es : List En} {ok : Nat → Bool} {i j r : Nat} (s : Jn es ok i j r) (hl : LogOK es) (h : ok i = true) (hj : j < es.length) (hr : r + 1 = wE (at' es (j : Int))) : Jn es ok (i + 1) (j + 1) 0 :=
  ⟨by omega, fun hj2 => by have := wE_bd (hl.ent hj2); omega, fun _ => rfl, by have := s.atE; show i + 1 = off es j + _ + 0; omega, fun q hq => by
    by_cases e : q = i
    · subst e; exact h
    · exact s.al q (by omega)⟩
theorem Jn.in {es : List En} {T : List (List Int)} {ok : Nat → Bool} {i j r : Nat} (s : Jn es ok i j r) (t : TK es T ok) (h : ok i = true) : j < es.length := by
  have h1 := s.jl
  refine Nat.lt_of_le_of_ne h1 fun e => ?_
  have h2 := t.out i (by have := s.atE; have := s.r0 e; subst e; omega)
  rw [h] at h2; cases h2
theorem chk_take {b : List Int} {r : Nat} : bytesV (b.take (54 * r)) ++ bytesV (chk b r) = bytesV (b.take (54 * (r + 1))) := by
  unfold bytesV chk
  rw [← List.map_append, show 54 * (r + 1) = 54 * r + 54 by omega, List.take_add]
theorem take_all {b : List Int} {r : Nat} (h : r + 1 = nS b) : bytesV (b.take (54 * (r + 1))) = bytesV b := by
  rw [List.take_of_length_le (by unfold nS at h; omega)]
theorem take_enS {es : List En} {j : Nat} (h : j < es.length) : (es.take j).map enC ++ [enC (at' es (j : Int))] = (es.take (j + 1)).map enC := by
  rw [List.take_add_one, oatE (by omega), List.map_append]; rfl
theorem chk_pos {b : List Int} {r : Nat} (h : r < nS b) : 1 ≤ (chk b r).length := by
  have := chk_f b r; have := (nS_lt (b := b) (i := r)).2 h; omega
set_option maxRecDepth 100000 in
set_option maxHeartbeats 4000000 in
theorem join_c (ka : Nat) (es : List En) (T : List (List Int)) (ok : Nat → Bool) (hes : LogOK es) (hl : es.length ≤ 100000 ∧ T.length ≤ 100000) (hT : TK es T ok) (h64 : ∀ x ∈ T, x.length = 64) (hk : ∀ q, T.length ≤ q → ok q = false) : Does Try.prog 14 [.sl 64 (secsV T)] [(ka, .dead)] [(ka, .tail ((es.take (whJ es ok es.length)).map enC).length)] (.tup [.own 13 ((es.take (whJ es ok es.length)).map enC) ka, .sc (.int .i64 (off es (whJ es ok es.length) : Int))]) := by
  refine does_mkg 40 Try.func14 rfl rfl rfl (fun n B bx hd hpre hup hvs hbx hgx => ?_);have hp0 := hpre.1;have hz0 := hp0;have hu0 := hup.1;refine runs_seq ?_;refine runs_region ?_;refine rl0 (gn rfl) rfl rfl (step_as rfl rfl) trivial ?_;refine rl0 (gn rfl) rfl rfl (step_as rfl rfl) trivial ?_;refine runsL_nil ?_;refine runs_scope ?_;refine runs_seq ?_;refine runs_region ?_;refine rl0 (gn rfl) rfl rfl (step_as rfl rfl) trivial ?_;refine runsL_nil ?_;refine runs_seq ?_;refine runs_region ?_;refine rl0 (gn rfl) rfl rfl (step_as rfl rfl) trivial ?_;refine runsL_nil ?_;refine runs_seq ?_;refine runs_region ?_;refine rl0 (gn rfl) rfl rfl (step_as rfl rfl) trivial ?_;refine runsL_nil ?_;refine runs_seq ?_;refine runs_label ?_;refine runs_seq ?_;refine runs_seq ?_;refine runs_region ?_;refine rl0 (gn rfl) rfl rfl (step_mv rfl rfl) trivial ?_;refine rl0 (gn rfl) rfl rfl (step_len (m := T.length) rfl rfl (ev_mk rfl) (.inl ⟨⟨_, Try.underlying27⟩, .inl ⟨_, _, .inl rfl, List.length_map _⟩⟩)) trivial ?_;refine rl0 (gn rfl) rfl rfl (step_mv rfl rfl) trivial ?_;refine runsL_nil ?_;refine runs_block ?_;refine runs_grow (l' := []) (d := 4) (k := ka) (e := 13) (xs := []) rfl (.inr ⟨rfl, rfl⟩) t_0 (by omega) ?_;refine runs_grow (l' := []) (d := 5) (k := n + 0) (e := 1) (xs := []) rfl (.inr ⟨rfl, rfl⟩) t_0 (by omega) ?_;have hs0_ : [] = ((es.take 0).map enC) := by rfl
  have hs1_ : [] = ((bytesV ((bE (at' es (0 : Int))).take (54 * 0)))) := by rfl
  have hs2_ : 0 = (off es 0 : Int) := by rfl
  refine runs_loop (fun (ri_ : Nat) (st_ : Go.Vm.S) => ∃ (i j r kb : Nat) (m0 : Nat) (b0 : Nat → Box), (st_ = ⟨mk [(2, .sc (.slice none 0 0)), (3, .sc (.int .i64 0)), (4, .own 13 ((es.take j).map enC) ka), (5, .own 1 (bytesV ((bE (at' es (j : Int))).take (54 * r))) kb), (6, .sc (.int .i64 (off es j : Int))), (15, .sl 64 (secsV T)), (16, .sc (.int .i64 T.length)), (17, .sc (.int .i64 (i : Int)))], m0, b0⟩) ∧ (ri_ = 1 + (T.length - i)) ∧ (n + 1 ≤ m0) ∧ (∀ k_, k_ < n → k_ ≠ ka → b0 k_ = bx k_) ∧ (b0 ka = .tail ((es.take j).map enC).length) ∧ (b0 kb = .tail (bytesV ((bE (at' es (j : Int))).take (54 * r))).length) ∧ (i ≤ T.length) ∧ (Jn es ok i j r) ∧ (n ≤ kb ∧ kb < m0)) (1 + (T.length - 0)) ⟨_, sle ?_ (Nat.le_refl _), 0, 0, 0, (n + 0), _, _, rfl, rfl, ?_⟩ ?_
  · exact t_23
  · exact ⟨by omega, (fun k_ hk_ e0_ => t_14), t_166, t_166, (by omega), Jn.zero hes, ⟨by omega, by omega⟩⟩
  · rintro _ _ ⟨i, j, r, kb, m0, b0, rfl, rfl, hm0, hf0, hB0_0, hB0_1, hF0_0, hF0_1, hF0_2⟩
    refine runs_know (fun hd0 => ?_);refine runs_bump 20 ?_;simp only at hd0;have hJa_ := hF0_1.atE;have hJl_ := hF0_1.jl;refine runs_seq ?_;refine runs_region ?_;refine rl_lss (gn rfl) rfl rfl rfl rfl rfl (fun h1 => ?_) (fun h1 => ?_)
    · skip
      refine runsL_nil ?_;refine runs_seq ?_;refine runs_cond true (ev_mk rfl) (fun _ => ?_) (fun h_ => nomatch h_);refine runs_skip ?_;refine runs_seq ?_;refine runs_block ?_;refine runs_seq ?_;refine runs_region ?_;rcases (show ok i = true ∨ ok i = false by cases ok i <;> simp) with hcs_ | hcs_
      · skip
        have hj_ := hF0_1.in hT hcs_
        have hr_ := hF0_1.rl hj_
        have hTi_ : (at' T (i : Int)) = (mkS ((i + 1 : Nat) : Int) (flS (bE (at' es (j : Int))) r) ((chk (bE (at' es (j : Int))) r).length : Int) (chk (bE (at' es (j : Int))) r)) := (by have q_ := (hT.yes j r hj_ hr_ (by rw [← hJa_]; exact hcs_)).2; rw [← hJa_] at q_; rw [q_]; unfold secA; rw [← hJa_])
        have h64i_ : (at' T (i : Int)).length = 64 := h64 _ (at_mem (xs := T) (i := (i : Int)) (by omega) (by omega))
        have hwd_ := wE_bd (hes.ent hj_)
        have hcp_ := chk_pos hr_
        have hcl_ := chk_len (bE (at' es (j : Int))) r
        have hrw_ : r + 1 = wE (at' es (j : Int)) → bytesV ((bE (at' es (j : Int))).take (54 * r)) ++ bytesV (chk (bE (at' es (j : Int))) r) = bytesV (bE (at' es (j : Int))) := fun h_ => chk_take.trans (take_all h_)
        have htl_ : ((bE (at' es (j : Int))).take (54 * r)).length ≤ 6100 := (by have h1_ := (bE_len (hes.ent hj_)).2; have h2_ := (List.take_sublist (54 * r) (bE (at' es (j : Int)))).length_le; omega)
        have hlsn_ := hes.lsn j hj_
        have hjl_ : (es.take j).length ≤ es.length := (List.take_sublist j es).length_le
        refine rl0 (gn rfl) rfl rfl (step_mv rfl rfl) trivial ?_;refine' rl0 (gn rfl) rfl rfl (step_index rfl (ev_mk rfl) (.inl rfl) (ev_mk rfl) Try.underlying27 F.sz47 (by omega) ?hr) trivial ?_
        case hr => exact t_31
        refine rl0 (gn rfl) rfl rfl (step_load_ro_all rfl rfl F.agg47 t_27) trivial ?_;refine rl1 (gn rfl) rfl rfl (step_allocc (k := m0 + 0) (zs := (List.replicate 64 (.int .u8 0))) (cs := List.replicate 64 (.sc (.int .u8 0))) rfl F.zero47 t_33 t_55 t_33) ⟨t_4, trivial⟩ (by omega) ?_;refine rl0 (gn rfl) rfl rfl (step_as rfl rfl) trivial ?_;refine' rls (gn rfl) rfl (step_storeA rfl rfl rfl rfl F.agg47 ?hm ?hl) ⟨?hb, trivial⟩ ?hk ?_
        case hb => exact t_4
        case hm => exact t_27
        case hl => exact t_27
        case hk => omega
        refine runsL_nil ?_;refine runs_seq ?_;refine runs_region ?_;refine' rl0 (gn rfl) rfl rfl (step_load_all rfl rfl F.agg47 ?hl) ⟨?hb, trivial⟩ ?_
        case hb => exact t_4
        case hl => exact t_27
        refine rl0 (gn rfl) rfl rfl (step_mv rfl rfl) trivial ?_;refine rl1 (gn rfl) rfl rfl (step_callc rfl Try.func38 rfl rfl rfl (part_s i (m0 + 1) (flS (bE (at' es (j : Int))) r) (chk (bE (at' es (j : Int))) r) (flS_4 _ _) ⟨hcp_, hcl_⟩ (by omega)) t_56) ⟨t_4, trivial⟩ (by omega) ?_;refine rl0 (gn rfl) rfl rfl (step_mv rfl rfl) trivial ?_;refine rl0 (gn rfl) rfl rfl (step_extract rfl (ev_mk rfl) rfl) trivial ?_;refine rl0 (gn rfl) rfl rfl (step_extract rfl (ev_mk rfl) rfl) trivial ?_;refine rl0 (gn rfl) rfl rfl (step_extract rfl (ev_mk rfl) rfl) trivial ?_;refine rl0 (gn rfl) rfl rfl (step_extract rfl (ev_mk rfl) rfl) trivial ?_;refine rl0 (gn rfl) rfl rfl (step_as rfl rfl) trivial ?_;refine rl0 (gn rfl) rfl rfl (step_as rfl rfl) trivial ?_;refine rl0 (gn rfl) rfl rfl (step_as rfl rfl) trivial ?_;refine rl0 (gn rfl) rfl rfl (step_as rfl rfl) trivial ?_;refine runsL_nil ?_;refine runs_seq ?_;refine runs_seq ?_;refine runs_region ?_;refine rl0 (gn rfl) rfl rfl (step_mv rfl rfl) trivial ?_;refine rl0 (gn rfl) rfl rfl (step_unOp (c := .bool false) rfl (ev_mk rfl) (fun _ => rfl)) trivial ?_;refine rl0 (gn rfl) rfl rfl (step_mv rfl rfl) trivial ?_;refine rl0 (gy rfl rfl rfl rfl rfl rfl) rfl rfl (step_mv rfl rfl) trivial ?_;refine rl0 (gy rfl rfl rfl rfl rfl rfl) rfl rfl (step_mv rfl rfl) trivial ?_;refine rl0 (gy rfl rfl rfl rfl rfl rfl) rfl rfl (step_mv rfl rfl) trivial ?_;refine rl_eql (gy rfl rfl rfl rfl rfl rfl) rfl rfl rfl rfl rfl (fun h2 => ?_) (fun h2 => ?_)
        · skip
          refine rl0 (gy rfl rfl rfl rfl rfl rfl) rfl rfl (step_neqb rfl (ev_mk rfl) (ev_mk rfl) Try.underlying4) trivial ?_;refine rl_know (d := 37) (c := false) rfl (by rw [flS_1, decide_eq_true (show r = 0 by omega)]; rfl) ?_;refine rl0 (gn rfl) rfl rfl (step_pick rfl (ev_mk rfl) (ev_mk rfl)) trivial ?_;refine runsL_nil ?_;refine runs_cond false (ev_mk rfl) (fun h_ => nomatch h_) (fun _ => ?_);refine runs_skip ?_;refine runs_seq ?_;refine runs_region ?_;refine rl0 (gn rfl) rfl rfl (step_mv rfl rfl) trivial ?_;refine rl0 (gn rfl) rfl rfl (step_mv rfl rfl) trivial ?_;refine' rl1 (gn rfl) rfl rfl (step_append_own rfl rfl rfl Try.underlying22 ⟨_, Try.underlying22, fun k_ => t_49⟩ F.el5 (ev_mk rfl) (ev_mk rfl) (gives_msl (ys := bytesV (chk (bE (at' es (j : Int))) r)) ?gl ?gy) ?hg) ⟨?hb, ?gb, trivial⟩ (by omega) ?_
          case hb => exact t_4
          case gb => exact t_4
          case gl => (rw [List.length_map, mkS_len (chk_len _ _)]; omega)
          case gy => (rw [chk_at (chk_len _ _)]; exact rows1 _)
          case hg => exact t_102
          refine rl0 (gn rfl) rfl rfl (step_as rfl rfl) trivial ?_;refine runsL_nil ?_;refine runs_seq ?_;refine runs_seq ?_;refine runs_region ?_;refine rl0 (gn rfl) rfl rfl (step_mv rfl rfl) trivial ?_;refine rl0 (gn rfl) rfl rfl (step_unOp rfl (ev_mk rfl) (fun _ => rfl)) trivial ?_;refine runsL_nil ?_;refine runs_cond _ (ev_mk rfl) (fun h3 => ?_) (fun h3 => ?_)
          · skip
            have hla_ : ¬ (r + 1 = wE (at' es (j : Int))) := (by have q_ := h3; rw [flS_2] at q_; show ¬ (r + 1 = nS (bE (at' es (j : Int)))); simpa using q_)
            refine runs_exit ?_;refine runs_region ?_;refine rl0 (gn rfl) rfl rfl (step_add rfl (ev_mk rfl) (ev_mk rfl) (w64 (by omega))) trivial ?_;refine rl0 (gn rfl) rfl rfl (step_mv rfl rfl) trivial ?_;refine runsL_nil ?_;have hq0_ : ((bytesV ((bE (at' es (j : Int))).take (54 * r))) ++ (bytesV (chk (bE (at' es (j : Int))) r))) = ((bytesV ((bE (at' es (j : Int))).take (54 * (r + 1))))) := by exact chk_take
            refine ⟨_, _, ?_, sle ?_ (Nat.le_refl _), (i + 1), j, (r + 1), kb, _, _, rfl, rfl, by omega, (fun k_ hk_ e0_ => t_64), t_130, t_130, (by omega), hF0_1.mid hcs_ hj_ (by omega), ⟨by omega, by omega⟩⟩
            · omega
            · exact t_3
          · skip
            have hla_ : r + 1 = wE (at' es (j : Int)) := (by have q_ := h3; rw [flS_2] at q_; show r + 1 = nS (bE (at' es (j : Int))); simpa using q_)
            have hrw_ := hrw_ hla_
            refine runs_skip ?_;refine runs_seq ?_;refine runs_region ?_;refine rl0 (gn rfl) rfl rfl (step_mv rfl rfl) trivial ?_;refine rl0 (gn rfl) rfl rfl (step_callc rfl Try.func39 rfl rfl rfl (ek_get (e := (at' es (j : Int))) (hes.ent hj_).1 (hes.ent hj_).2) t_56) trivial ?_;refine rl0 (gn rfl) rfl rfl (step_mv rfl rfl) trivial ?_;refine rl0 (gn rfl) rfl rfl (step_extract rfl (ev_mk rfl) rfl) trivial ?_;refine rl0 (gn rfl) rfl rfl (step_extract rfl (ev_mk rfl) rfl) trivial ?_;refine rl1 (gn rfl) rfl rfl (step_allocc (k := m0 + 2) (zs := [.int .u64 0, .int .i64 0, .int .u64 0, .int .u64 0, .int .u64 0, .int .u64 0, .int .u64 0, .int .u32 0, .int .u32 0, .string ByteArray.empty, .bool false, .slice none 0 0, .slice none 0 0]) (cs := [.sc (.int .u64 0), .sc (.int .i64 0), .sc (.int .u64 0), .sc (.int .u64 0), .sc (.int .u64 0), .sc (.int .u64 0), .sc (.int .u64 0), .sc (.int .u32 0), .sc (.int .u32 0), .sc (.string ByteArray.empty), .sc (.bool false), .sc (.slice none 0 0), .sc (.slice none 0 0)]) rfl F.zero40 t_33 t_55 t_33) ⟨t_4, trivial⟩ (by omega) ?_;refine' rls (gn rfl) rfl (step_storeA rfl rfl rfl rfl F.agg40 ?hm ?hl) ⟨?hb, trivial⟩ ?hk ?_
            case hb => exact t_4
            case hm => exact t_27
            case hl => exact t_27
            case hk => omega
            refine rl0 (gn rfl) rfl rfl (step_as rfl rfl) trivial ?_;refine runsL_nil ?_;refine runs_seq ?_;refine runs_seq ?_;refine runs_region ?_;refine rl0 (gn rfl) rfl rfl (step_mv rfl rfl) trivial ?_;refine rl_neq (gn rfl) rfl rfl rfl rfl rfl (fun h4 => ?_) (fun h4 => ?_)
            · exact t_42
            refine rl0 (gn rfl) rfl rfl (step_mv rfl rfl) trivial ?_;refine rl0 (gy rfl rfl rfl rfl rfl rfl) rfl rfl (step_fieldAddr (off := 0) rfl (ev_mk rfl) Try.underlying40 rfl F.sz33 rfl) trivial ?_;refine' rl0 (gy rfl rfl rfl rfl rfl rfl) rfl rfl (step_load_one rfl (ev_mk rfl) F.one33 ?hv) ⟨?hb, trivial⟩ ?_
            case hb => exact t_4
            case hv => rfl
            refine rl0 (gy rfl rfl rfl rfl rfl rfl) rfl rfl (step_mv rfl rfl) trivial ?_;refine rl0 (gy rfl rfl rfl rfl rfl rfl) rfl rfl (step_add rfl (ev_mk rfl) (ev_mk rfl) (w64 (by omega))) trivial ?_;refine rl0 (gy rfl rfl rfl rfl rfl rfl) rfl rfl (step_conv_id rfl rfl Try.underlying3 Try.underlying33 (wu64 (by omega))) trivial ?_;refine rl_neq (gy rfl rfl rfl rfl rfl rfl) rfl rfl rfl rfl rfl (fun h5 => ?_) (fun h5 => ?_)
            · exact t_42
            refine rl0 (gn rfl) rfl rfl (step_pick rfl (ev_mk rfl) (ev_mk rfl)) trivial ?_;refine runsL_nil ?_;refine runs_cond false (ev_mk rfl) (fun h_ => nomatch h_) (fun _ => ?_);refine runs_skip ?_;refine runs_seq ?_;refine runs_region ?_;refine rl0 (gn rfl) rfl rfl (step_mv rfl rfl) trivial ?_;refine' rl0 (gn rfl) rfl rfl (step_load_all rfl rfl F.agg40 ?hl) ⟨?hb, trivial⟩ ?_
            case hb => exact t_4
            case hl => exact t_27
            refine rl0 (gn rfl) rfl rfl (step_lit rfl Try.underlying24 F.sz40 F.zero40 t_33 t_139 (by decide) rfl rfl t_21 rfl) trivial ?_;refine' rl1 (gn rfl) rfl rfl (step_append_own rfl rfl rfl Try.underlying24 ⟨_, Try.underlying24, fun k_ => t_49⟩ F.el40 (ev_mk rfl) (ev_mk rfl) (gives_sl (.inr (.inl rfl))) ?hg) ⟨?hb, trivial⟩ (by omega) ?_
            case hb => exact t_4
            case hg => (simp; omega)
            refine rl0 (gn rfl) rfl rfl (step_as rfl rfl) trivial ?_;refine runsL_nil ?_;refine runs_region ?_;refine rl0 (gn rfl) rfl rfl (step_mv rfl rfl) trivial ?_;refine rl0 (gn rfl) rfl rfl (step_add rfl (ev_mk rfl) (ev_mk rfl) (w64 (by omega))) trivial ?_;refine rl0 (gn rfl) rfl rfl (step_as rfl rfl) trivial ?_;refine rl0 (gn rfl) rfl rfl (step_as rfl rfl) trivial ?_;refine runsL_nil ?_;refine runs_grow (l' := []) (d := 5) (k := m0 + 3) (e := 1) (xs := []) rfl (.inr ⟨rfl, rfl⟩) t_4 (by omega) ?_;refine runs_region ?_;refine rl0 (gn rfl) rfl rfl (step_add rfl (ev_mk rfl) (ev_mk rfl) (w64 (by omega))) trivial ?_;refine rl0 (gn rfl) rfl rfl (step_mv rfl rfl) trivial ?_;refine runsL_nil ?_;have hq0_ : (((es.take j).map enC) ++ [[V.sc (.int .u64 (at' es (j : Int)).lsn), V.sc (.int .i64 (at' es (j : Int)).kind), V.sc (.int .u64 (at' es (j : Int)).txn), V.sc (.int .u64 (at' es (j : Int)).prev), V.sc (.int .u64 (at' es (j : Int)).next), V.sc (.int .u64 (at' es (j : Int)).r.id), V.sc (.int .u64 (at' es (j : Int)).r.key), V.sc (.int .u32 (at' es (j : Int)).r.x), V.sc (.int .u32 (at' es (j : Int)).r.y), V.sc (.string (at' es (j : Int)).r.val), V.sc (.bool (at' es (j : Int)).r.gh), V.sl 225 ((at' es (j : Int)).pages.map imR), V.sl 1 ((at' es (j : Int)).act.map acR)]]) = ((es.take (j + 1)).map enC) := by exact take_enS hj_
            have hq1_ : [] = ((bytesV ((bE (at' es ((j + 1) : Int))).take (54 * 0)))) := by rfl
            have hq2_ : ((i : Int) + 1) = (off es (j + 1) : Int) := by (show ((i : Nat) : Int) + 1 = ((off es j + wE (at' es (j : Int)) : Nat) : Int); omega)
            refine ⟨_, _, ?_, sle ?_ (Nat.le_refl _), (i + 1), (j + 1), 0, (m0 + 3), _, _, rfl, rfl, by omega, (fun k_ hk_ e0_ => t_64), t_168, t_168, (by omega), hF0_1.last hes hcs_ hj_ (by omega), ⟨by omega, by omega⟩⟩
            · omega
            · exact t_65
        · skip
          refine rl0 (gy rfl rfl rfl rfl rfl rfl) rfl rfl (step_neqb rfl (ev_mk rfl) (ev_mk rfl) Try.underlying4) trivial ?_;refine rl_know (d := 37) (c := false) rfl (by rw [flS_1, decide_eq_false (show ¬ r = 0 by omega)]; rfl) ?_;refine rl0 (gn rfl) rfl rfl (step_pick rfl (ev_mk rfl) (ev_mk rfl)) trivial ?_;refine runsL_nil ?_;refine runs_cond false (ev_mk rfl) (fun h_ => nomatch h_) (fun _ => ?_);refine runs_skip ?_;refine runs_seq ?_;refine runs_region ?_;refine rl0 (gn rfl) rfl rfl (step_mv rfl rfl) trivial ?_;refine rl0 (gn rfl) rfl rfl (step_mv rfl rfl) trivial ?_;refine' rl1 (gn rfl) rfl rfl (step_append_own rfl rfl rfl Try.underlying22 ⟨_, Try.underlying22, fun k_ => t_49⟩ F.el5 (ev_mk rfl) (ev_mk rfl) (gives_msl (ys := bytesV (chk (bE (at' es (j : Int))) r)) ?gl ?gy) ?hg) ⟨?hb, ?gb, trivial⟩ (by omega) ?_
          case hb => exact t_4
          case gb => exact t_4
          case gl => (rw [List.length_map, mkS_len (chk_len _ _)]; omega)
          case gy => (rw [chk_at (chk_len _ _)]; exact rows1 _)
          case hg => exact t_102
          refine rl0 (gn rfl) rfl rfl (step_as rfl rfl) trivial ?_;refine runsL_nil ?_;refine runs_seq ?_;refine runs_seq ?_;refine runs_region ?_;refine rl0 (gn rfl) rfl rfl (step_mv rfl rfl) trivial ?_;refine rl0 (gn rfl) rfl rfl (step_unOp rfl (ev_mk rfl) (fun _ => rfl)) trivial ?_;refine runsL_nil ?_;refine runs_cond _ (ev_mk rfl) (fun h3 => ?_) (fun h3 => ?_)
          · skip
            have hla_ : ¬ (r + 1 = wE (at' es (j : Int))) := (by have q_ := h3; rw [flS_2] at q_; show ¬ (r + 1 = nS (bE (at' es (j : Int)))); simpa using q_)
            refine runs_exit ?_;refine runs_region ?_;refine rl0 (gn rfl) rfl rfl (step_add rfl (ev_mk rfl) (ev_mk rfl) (w64 (by omega))) trivial ?_;refine rl0 (gn rfl) rfl rfl (step_mv rfl rfl) trivial ?_;refine runsL_nil ?_;have hq0_ : ((bytesV ((bE (at' es (j : Int))).take (54 * r))) ++ (bytesV (chk (bE (at' es (j : Int))) r))) = ((bytesV ((bE (at' es (j : Int))).take (54 * (r + 1))))) := by exact chk_take
            refine ⟨_, _, ?_, sle ?_ (Nat.le_refl _), (i + 1), j, (r + 1), kb, _, _, rfl, rfl, by omega, (fun k_ hk_ e0_ => t_64), t_130, t_130, (by omega), hF0_1.mid hcs_ hj_ (by omega), ⟨by omega, by omega⟩⟩
            · omega
            · exact t_3
          · skip
            have hla_ : r + 1 = wE (at' es (j : Int)) := (by have q_ := h3; rw [flS_2] at q_; show r + 1 = nS (bE (at' es (j : Int))); simpa using q_)
            have hrw_ := hrw_ hla_
            refine runs_skip ?_;refine runs_seq ?_;refine runs_region ?_;refine rl0 (gn rfl) rfl rfl (step_mv rfl rfl) trivial ?_;refine rl0 (gn rfl) rfl rfl (step_callc rfl Try.func39 rfl rfl rfl (ek_get (e := (at' es (j : Int))) (hes.ent hj_).1 (hes.ent hj_).2) t_56) trivial ?_;refine rl0 (gn rfl) rfl rfl (step_mv rfl rfl) trivial ?_;refine rl0 (gn rfl) rfl rfl (step_extract rfl (ev_mk rfl) rfl) trivial ?_;refine rl0 (gn rfl) rfl rfl (step_extract rfl (ev_mk rfl) rfl) trivial ?_;refine rl1 (gn rfl) rfl rfl (step_allocc (k := m0 + 2) (zs := [.int .u64 0, .int .i64 0, .int .u64 0, .int .u64 0, .int .u64 0, .int .u64 0, .int .u64 0, .int .u32 0, .int .u32 0, .string ByteArray.empty, .bool false, .slice none 0 0, .slice none 0 0]) (cs := [.sc (.int .u64 0), .sc (.int .i64 0), .sc (.int .u64 0), .sc (.int .u64 0), .sc (.int .u64 0), .sc (.int .u64 0), .sc (.int .u64 0), .sc (.int .u32 0), .sc (.int .u32 0), .sc (.string ByteArray.empty), .sc (.bool false), .sc (.slice none 0 0), .sc (.slice none 0 0)]) rfl F.zero40 t_33 t_55 t_33) ⟨t_4, trivial⟩ (by omega) ?_;refine' rls (gn rfl) rfl (step_storeA rfl rfl rfl rfl F.agg40 ?hm ?hl) ⟨?hb, trivial⟩ ?hk ?_
            case hb => exact t_4
            case hm => exact t_27
            case hl => exact t_27
            case hk => omega
            refine rl0 (gn rfl) rfl rfl (step_as rfl rfl) trivial ?_;refine runsL_nil ?_;refine runs_seq ?_;refine runs_seq ?_;refine runs_region ?_;refine rl0 (gn rfl) rfl rfl (step_mv rfl rfl) trivial ?_;refine rl_neq (gn rfl) rfl rfl rfl rfl rfl (fun h4 => ?_) (fun h4 => ?_)
            · exact t_42
            refine rl0 (gn rfl) rfl rfl (step_mv rfl rfl) trivial ?_;refine rl0 (gy rfl rfl rfl rfl rfl rfl) rfl rfl (step_fieldAddr (off := 0) rfl (ev_mk rfl) Try.underlying40 rfl F.sz33 rfl) trivial ?_;refine' rl0 (gy rfl rfl rfl rfl rfl rfl) rfl rfl (step_load_one rfl (ev_mk rfl) F.one33 ?hv) ⟨?hb, trivial⟩ ?_
            case hb => exact t_4
            case hv => rfl
            refine rl0 (gy rfl rfl rfl rfl rfl rfl) rfl rfl (step_mv rfl rfl) trivial ?_;refine rl0 (gy rfl rfl rfl rfl rfl rfl) rfl rfl (step_add rfl (ev_mk rfl) (ev_mk rfl) (w64 (by omega))) trivial ?_;refine rl0 (gy rfl rfl rfl rfl rfl rfl) rfl rfl (step_conv_id rfl rfl Try.underlying3 Try.underlying33 (wu64 (by omega))) trivial ?_;refine rl_neq (gy rfl rfl rfl rfl rfl rfl) rfl rfl rfl rfl rfl (fun h5 => ?_) (fun h5 => ?_)
            · exact t_42
            refine rl0 (gn rfl) rfl rfl (step_pick rfl (ev_mk rfl) (ev_mk rfl)) trivial ?_;refine runsL_nil ?_;refine runs_cond false (ev_mk rfl) (fun h_ => nomatch h_) (fun _ => ?_);refine runs_skip ?_;refine runs_seq ?_;refine runs_region ?_;refine rl0 (gn rfl) rfl rfl (step_mv rfl rfl) trivial ?_;refine' rl0 (gn rfl) rfl rfl (step_load_all rfl rfl F.agg40 ?hl) ⟨?hb, trivial⟩ ?_
            case hb => exact t_4
            case hl => exact t_27
            refine rl0 (gn rfl) rfl rfl (step_lit rfl Try.underlying24 F.sz40 F.zero40 t_33 t_139 (by decide) rfl rfl t_21 rfl) trivial ?_;refine' rl1 (gn rfl) rfl rfl (step_append_own rfl rfl rfl Try.underlying24 ⟨_, Try.underlying24, fun k_ => t_49⟩ F.el40 (ev_mk rfl) (ev_mk rfl) (gives_sl (.inr (.inl rfl))) ?hg) ⟨?hb, trivial⟩ (by omega) ?_
            case hb => exact t_4
            case hg => (simp; omega)
            refine rl0 (gn rfl) rfl rfl (step_as rfl rfl) trivial ?_;refine runsL_nil ?_;refine runs_region ?_;refine rl0 (gn rfl) rfl rfl (step_mv rfl rfl) trivial ?_;refine rl0 (gn rfl) rfl rfl (step_add rfl (ev_mk rfl) (ev_mk rfl) (w64 (by omega))) trivial ?_;refine rl0 (gn rfl) rfl rfl (step_as rfl rfl) trivial ?_;refine rl0 (gn rfl) rfl rfl (step_as rfl rfl) trivial ?_;refine runsL_nil ?_;refine runs_grow (l' := []) (d := 5) (k := m0 + 3) (e := 1) (xs := []) rfl (.inr ⟨rfl, rfl⟩) t_4 (by omega) ?_;refine runs_region ?_;refine rl0 (gn rfl) rfl rfl (step_add rfl (ev_mk rfl) (ev_mk rfl) (w64 (by omega))) trivial ?_;refine rl0 (gn rfl) rfl rfl (step_mv rfl rfl) trivial ?_;refine runsL_nil ?_;have hq0_ : (((es.take j).map enC) ++ [[V.sc (.int .u64 (at' es (j : Int)).lsn), V.sc (.int .i64 (at' es (j : Int)).kind), V.sc (.int .u64 (at' es (j : Int)).txn), V.sc (.int .u64 (at' es (j : Int)).prev), V.sc (.int .u64 (at' es (j : Int)).next), V.sc (.int .u64 (at' es (j : Int)).r.id), V.sc (.int .u64 (at' es (j : Int)).r.key), V.sc (.int .u32 (at' es (j : Int)).r.x), V.sc (.int .u32 (at' es (j : Int)).r.y), V.sc (.string (at' es (j : Int)).r.val), V.sc (.bool (at' es (j : Int)).r.gh), V.sl 225 ((at' es (j : Int)).pages.map imR), V.sl 1 ((at' es (j : Int)).act.map acR)]]) = ((es.take (j + 1)).map enC) := by exact take_enS hj_
            have hq1_ : [] = ((bytesV ((bE (at' es ((j + 1) : Int))).take (54 * 0)))) := by rfl
            have hq2_ : ((i : Int) + 1) = (off es (j + 1) : Int) := by (show ((i : Nat) : Int) + 1 = ((off es j + wE (at' es (j : Int)) : Nat) : Int); omega)
            refine ⟨_, _, ?_, sle ?_ (Nat.le_refl _), (i + 1), (j + 1), 0, (m0 + 3), _, _, rfl, rfl, by omega, (fun k_ hk_ e0_ => t_64), t_168, t_168, (by omega), hF0_1.last hes hcs_ hj_ (by omega), ⟨by omega, by omega⟩⟩
            · omega
            · exact t_65
      · skip
        have hTi_ : (at' T (i : Int)) = List.replicate 64 0 := hT.no i (by omega) hcs_
        have h64i_ : (at' T (i : Int)).length = 64 := h64 _ (at_mem (xs := T) (i := (i : Int)) (by omega) (by omega))
        refine rl0 (gn rfl) rfl rfl (step_mv rfl rfl) trivial ?_;refine' rl0 (gn rfl) rfl rfl (step_index rfl (ev_mk rfl) (.inl rfl) (ev_mk rfl) Try.underlying27 F.sz47 (by omega) ?hr) trivial ?_
        case hr => exact t_31
        refine rl0 (gn rfl) rfl rfl (step_load_ro_all rfl rfl F.agg47 t_27) trivial ?_;refine rl1 (gn rfl) rfl rfl (step_allocc (k := m0 + 0) (zs := (List.replicate 64 (.int .u8 0))) (cs := List.replicate 64 (.sc (.int .u8 0))) rfl F.zero47 t_33 t_55 t_33) ⟨t_4, trivial⟩ (by omega) ?_;refine rl0 (gn rfl) rfl rfl (step_as rfl rfl) trivial ?_;refine' rls (gn rfl) rfl (step_storeA rfl rfl rfl rfl F.agg47 ?hm ?hl) ⟨?hb, trivial⟩ ?hk ?_
        case hb => exact t_4
        case hm => exact t_27
        case hl => exact t_27
        case hk => omega
        refine runsL_nil ?_;refine runs_seq ?_;refine runs_region ?_;refine' rl0 (gn rfl) rfl rfl (step_load_all rfl rfl F.agg47 ?hl) ⟨?hb, trivial⟩ ?_
        case hb => exact t_4
        case hl => exact t_27
        refine rl0 (gn rfl) rfl rfl (step_mv rfl rfl) trivial ?_;refine rl1 (gn rfl) rfl rfl (step_callc rfl Try.func38 rfl rfl rfl (part_z i (m0 + 1) (by omega)) t_56) ⟨t_4, trivial⟩ (by omega) ?_;refine rl0 (gn rfl) rfl rfl (step_mv rfl rfl) trivial ?_;refine rl0 (gn rfl) rfl rfl (step_extract rfl (ev_mk rfl) rfl) trivial ?_;refine rl0 (gn rfl) rfl rfl (step_extract rfl (ev_mk rfl) rfl) trivial ?_;refine rl0 (gn rfl) rfl rfl (step_extract rfl (ev_mk rfl) rfl) trivial ?_;refine rl0 (gn rfl) rfl rfl (step_extract rfl (ev_mk rfl) rfl) trivial ?_;refine rl0 (gn rfl) rfl rfl (step_as rfl rfl) trivial ?_;refine rl0 (gn rfl) rfl rfl (step_as rfl rfl) trivial ?_;refine rl0 (gn rfl) rfl rfl (step_as rfl rfl) trivial ?_;refine rl0 (gn rfl) rfl rfl (step_as rfl rfl) trivial ?_;refine runsL_nil ?_;refine runs_seq ?_;refine runs_seq ?_;refine runs_region ?_;refine rl0 (gn rfl) rfl rfl (step_mv rfl rfl) trivial ?_;refine rl0 (gn rfl) rfl rfl (step_unOp (c := .bool true) rfl (ev_mk rfl) (fun _ => rfl)) trivial ?_;refine rl0 (gn rfl) rfl rfl (step_mv rfl rfl) trivial ?_;refine rlk rfl rfl rfl rfl rfl (ngb rfl rfl) rfl rfl ?_;refine rlk rfl rfl rfl rfl rfl (ngb rfl rfl) rfl rfl ?_;refine rlk rfl rfl rfl rfl rfl (ngb rfl rfl) rfl rfl ?_;refine rlk rfl rfl rfl rfl rfl (ngb rfl rfl) rfl rfl ?_;refine rlk rfl rfl rfl rfl rfl (ngb rfl rfl) rfl rfl ?_;refine rl0 (gn rfl) rfl rfl (step_pick rfl (ev_mk rfl) (ev_mk rfl)) trivial ?_;refine runsL_nil ?_;refine runs_cond true (ev_mk rfl) (fun _ => ?_) (fun h_ => nomatch h_);refine runs_exit ?_;refine runs_seq ?_;refine runs_region ?_;refine rl0 (gn rfl) rfl rfl (step_mv rfl rfl) trivial ?_;refine rl0 (gn rfl) rfl rfl (step_mv rfl rfl) trivial ?_;refine rl0 (gn rfl) rfl rfl (step_as rfl rfl) trivial ?_;refine rl0 (gn rfl) rfl rfl (step_as rfl rfl) trivial ?_;refine runsL_nil ?_;refine runs_ret ?_;have hst_ : whJ es ok es.length = j := (by first | exact hF0_1.stop hcs_ | exact hF0_1.stop (hk _ (by omega)));rw [hst_];refine ⟨t_17, fin_mkg (rest rfl (rest rfl res0)) ?_ ?_ ?_ ?_ ?_⟩
        · exact t_2
        · exact t_1
        · exact t_144
        · exact t_132
        · exact t_1
    · skip
      refine runsL_nil ?_;refine runs_seq ?_;refine runs_cond false (ev_mk rfl) (fun h_ => nomatch h_) (fun _ => ?_);refine runs_exit ?_;refine runs_seq ?_;refine runs_region ?_;refine rl0 (gn rfl) rfl rfl (step_mv rfl rfl) trivial ?_;refine rl0 (gn rfl) rfl rfl (step_mv rfl rfl) trivial ?_;refine rl0 (gn rfl) rfl rfl (step_as rfl rfl) trivial ?_;refine rl0 (gn rfl) rfl rfl (step_as rfl rfl) trivial ?_;refine runsL_nil ?_;refine runs_ret ?_;have hst_ : whJ es ok es.length = j := (by first | exact hF0_1.stop hcs_ | exact hF0_1.stop (hk _ (by omega)));rw [hst_];refine ⟨t_17, fin_mkg (rest rfl (rest rfl res0)) ?_ ?_ ?_ ?_ ?_⟩
      · exact t_2
      · exact t_1
      · exact t_144
      · exact t_132
      · exact t_1
end Go.Proofs.Ytdmkhpnjjpeeaaa
namespace Go.Proofs.Ytdmkhpnjjpeeaaa
open Go.Vm
set_option linter.unusedVariables false
set_option linter.unusedSimpArgs false
open Crc
attribute [local irreducible] Go.Vm.beB
def okW (dn : Nat) (kp : List Bool) (q : Nat) : Bool := decide (q < dn) || kp.getD (q - dn) false
theorem okW_a {dn z : Nat} {kp : List Bool} (h : (z : Int) ≥ dn) (h2 : (z : Int) - dn ≥ kp.length) : okW dn kp z = false := by
  unfold okW; rw [decide_eq_false (by omega), List.getD_eq_getElem?_getD, List.getElem?_eq_none (by omega)]; rfl
theorem okW_b {dn z : Nat} {kp : List Bool} (h : (z : Int) ≥ dn) (h2 : ¬ (z : Int) - dn ≥ kp.length) : okW dn kp z = at' kp ((z : Int) - dn) := by
  unfold okW at'; rw [decide_eq_false (by omega), show ((z : Int) - dn).toNat = z - dn by omega, List.getD_eq_getElem?_getD, List.getD_eq_getElem?_getD, List.getElem?_eq_getElem (by omega)]; rfl
theorem okW_c {dn z : Nat} {kp : List Bool} (h : ¬ (z : Int) ≥ dn) : okW dn kp z = true := by
  unfold okW; rw [decide_eq_true (by omega)]; rfl
theorem off_bd {es : List En} (h : ∀ e ∈ es, okL e) : ∀ {j : Nat}, j ≤ es.length → off es j ≤ 113 * j
  | 0, _ => Nat.le_refl _
  | j + 1, hj => by
    have h1 := off_bd h (j := j) (by omega)
    have h2 := wE_bd (h _ (at_memE (l := es) (i := j) (by omega)))
    show off es j + _ ≤ _; omega
theorem al_nx {ok : Nat → Bool} {z : Nat} (h : ∀ q, q < z → ok q = true) (hz : ok z = true) : ∀ q, q < z + 1 → ok q = true := fun q hq => by
  by_cases e : q = z
  · subst e; exact hz
  · exact h q (by omega)
theorem wh_at {es : List En} {ok : Nat → Bool} {i z : Nat} (hi : i < es.length) (h1 : off es i ≤ z) (h2 : z < off es i + wE (at' es (i : Int))) (hal : ∀ q, q < z → ok q = true) (hz : ok z = false) : whJ es ok es.length = i :=
  whJ_eq (fun q hq => hal q (by omega)) hz (show z < off es i + _ from h2) (by omega)
set_option maxRecDepth 100000 in
set_option maxHeartbeats 4000000 in
theorem whole_c (es : List En) (sz us dn : Nat) (kp : List Bool) (hes : ∀ e ∈ es, okL e) (hl : es.length ≤ 10000 ∧ dn ≤ 100000000 ∧ kp.length ≤ 100000000) : Does Try.prog 15 [.agg [.sc (.int .i64 (sz : Int)), .sl 13 (es.map enC), .sc (.int .i64 (us : Int)), .sc (.int .i64 (dn : Int))], .sl 1 (boolsV kp)] [] [] (.tup [.sl 13 ((es.take (whJ es (okW dn kp) es.length)).map enC), .sc (.int .i64 (off es (whJ es (okW dn kp) es.length) : Int))]) := by
  refine does_mkg 40 Try.func15 rfl rfl rfl (fun n B bx hd hpre hup hvs hbx hgx => ?_);refine runs_seq ?_;refine runs_region ?_;refine rl1 (gn rfl) rfl rfl (step_box_agg (k := n + 0) rfl rfl) ⟨t_0, trivial⟩ (by omega) ?_;refine rl0 (gn rfl) rfl rfl (step_as rfl rfl) trivial ?_;refine rl0 (gn rfl) rfl rfl (step_as rfl rfl) trivial ?_;refine runsL_nil ?_;refine runs_seq ?_;refine runs_region ?_;refine rl0 (gn rfl) rfl rfl (step_as rfl rfl) trivial ?_;refine runsL_nil ?_;refine runs_seq ?_;refine runs_region ?_;refine rl0 (gn rfl) rfl rfl (step_as rfl rfl) trivial ?_;refine runsL_nil ?_;refine runs_seq ?_;refine runs_seq ?_;refine runs_region ?_;refine rl0 (gn rfl) rfl rfl (step_as rfl rfl) trivial ?_;refine runsL_nil ?_;refine runs_block ?_;refine runs_grow (l' := []) (d := 6) (k := n + 1) (e := 13) (xs := []) rfl (.inr ⟨rfl, rfl⟩) t_0 (by omega) ?_;have hs0_ : [] = ((es.take 0).map enC) := by rfl
  have hs1_ : 0 = (off es 0 : Int) := by rfl
  refine runs_loop (fun (ri_ : Nat) (st_ : Go.Vm.S) => ∃ (i : Nat) (m0 : Nat) (b0 : Nat → Box), (st_ = ⟨mk [(1, .sl 1 (boolsV kp)), (2, .ref (n + 0) 0), (4, .sc (.slice none 0 0)), (5, .sc (.int .i64 0)), (6, .own 13 ((es.take i).map enC) (n + 1)), (7, .sc (.int .i64 (off es i : Int))), (8, .sc (.int .i64 (i : Int)))], m0, b0⟩) ∧ (ri_ = 1 + (es.length - i)) ∧ (n + 2 ≤ m0) ∧ (∀ k_, k_ < n → b0 k_ = bx k_) ∧ (b0 (n + 0) = .cells [.sc (.int .i64 (sz : Int)), .sl 13 (es.map enC), .sc (.int .i64 (us : Int)), .sc (.int .i64 (dn : Int))]) ∧ (b0 (n + 1) = .tail ((es.take i).map enC).length) ∧ (i ≤ es.length) ∧ (∀ q, q < off es i → (okW dn kp) q = true)) (1 + (es.length - 0)) ⟨_, sle ?_ (Nat.le_refl _), 0, _, _, rfl, rfl, ?_⟩ ?_
  · exact t_25
  · exact ⟨by omega, (fun k_ hk_ => t_14), t_167, t_167, (by omega), (fun q_ h_ => absurd h_ (Nat.not_lt_zero _))⟩
  · rintro _ _ ⟨i, m0, b0, rfl, rfl, hm0, hf0, hB0_0, hB0_1, hF0_0, hF0_1⟩
    refine runs_know (fun hd0 => ?_);refine runs_bump 20 ?_;simp only at hd0;have hob_ := off_bd hes hF0_0;have hjl_ : (es.take i).length ≤ es.length := (List.take_sublist i es).length_le;refine runs_seq ?_;refine runs_seq ?_;refine runs_region ?_;refine rl0 (gn rfl) rfl rfl (step_mv rfl rfl) trivial ?_;refine rl0 (gn rfl) rfl rfl (step_fieldAddr (off := 1) rfl (ev_mk rfl) Try.underlying31 rfl F.sz24 rfl) trivial ?_;refine' rl0 (gn rfl) rfl rfl (step_load_one rfl (ev_mk rfl) F.one24 ?hv) ⟨?hb, trivial⟩ ?_
    case hb => exact t_4
    case hv => rfl
    refine rl0 (gn rfl) rfl rfl (step_len (m := es.length) rfl rfl (ev_mk rfl) (.inl ⟨⟨_, Try.underlying24⟩, .inl ⟨_, _, .inl rfl, List.length_map _⟩⟩)) trivial ?_;refine rl_lss (gn rfl) rfl rfl rfl rfl rfl (fun h1 => ?_) (fun h1 => ?_)
    · skip
      have hi_ : i < es.length := by omega
      have hei_ := hes _ (at_memE (l := es) (i := i) (by omega))
      have hwd_ := wE_bd hei_
      refine runsL_nil ?_;refine runs_cond true (ev_mk rfl) (fun _ => ?_) (fun h_ => nomatch h_);refine runs_skip ?_;refine runs_seq ?_;refine runs_block ?_;refine runs_seq ?_;refine runs_region ?_;refine rl0 (gn rfl) rfl rfl (step_fieldAddr (off := 1) rfl (ev_mk rfl) Try.underlying31 rfl F.sz24 rfl) trivial ?_;refine' rl0 (gn rfl) rfl rfl (step_load_one rfl (ev_mk rfl) F.one24 ?hv) ⟨?hb, trivial⟩ ?_
      case hb => exact t_4
      case hv => rfl
      refine rl0 (gn rfl) rfl rfl (step_mv rfl rfl) trivial ?_;refine' rl0 (gn rfl) rfl rfl (step_index rfl (ev_mk rfl) (.inl rfl) (ev_mk rfl) Try.underlying24 F.sz40 (by omega) ?hr) trivial ?_
      case hr => exact t_31
      refine rl0 (gn rfl) rfl rfl (step_load_ro_all rfl rfl F.agg40 t_15) trivial ?_;refine rl0 (gn rfl) rfl rfl (step_callc rfl Try.func40 rfl rfl rfl (width_c (at' es (i : Int)) hei_) t_8) trivial ?_;refine rl0 (gn rfl) rfl rfl (step_as rfl rfl) trivial ?_;refine runsL_nil ?_;refine runs_seq ?_;refine runs_seq ?_;refine runs_region ?_;refine rl0 (gn rfl) rfl rfl (step_mv rfl rfl) trivial ?_;refine rl0 (gn rfl) rfl rfl (step_as rfl rfl) trivial ?_;refine runsL_nil ?_;refine runs_block ?_;refine runs_loop (fun (ri_ : Nat) (st_ : Go.Vm.S) => ∃ (z : Nat) (m1 : Nat) (b1 : Nat → Box), (st_ = ⟨mk [(1, .sl 1 (boolsV kp)), (2, .ref (n + 0) 0), (4, .sc (.slice none 0 0)), (5, .sc (.int .i64 0)), (6, .own 13 ((es.take i).map enC) (n + 1)), (7, .sc (.int .i64 (off es i : Int))), (8, .sc (.int .i64 (i : Int))), (9, .sc (.int .i64 (wE (at' es (i : Int)) : Int))), (10, .sc (.int .i64 (z : Int))), (11, .sc (.int .i64 (i : Int))), (12, .ref (n + 0) 1), (13, .sl 13 (es.map enC)), (14, .sc (.int .i64 es.length)), (15, .sc (.bool true)), (18, .ref (n + 0) 1), (19, .sl 13 (es.map enC)), (20, .sc (.int .i64 (i : Int))), (21, .ro [.sc (.int .u64 (at' es (i : Int)).lsn), .sc (.int .i64 (at' es (i : Int)).kind), .sc (.int .u64 (at' es (i : Int)).txn), .sc (.int .u64 (at' es (i : Int)).prev), .sc (.int .u64 (at' es (i : Int)).next), .sc (.int .u64 (at' es (i : Int)).r.id), .sc (.int .u64 (at' es (i : Int)).r.key), .sc (.int .u32 (at' es (i : Int)).r.x), .sc (.int .u32 (at' es (i : Int)).r.y), .sc (.string (at' es (i : Int)).r.val), .sc (.bool (at' es (i : Int)).r.gh), .sl 225 ((at' es (i : Int)).pages.map imR), .sl 1 ((at' es (i : Int)).act.map acR)]), (22, .agg [.sc (.int .u64 (at' es (i : Int)).lsn), .sc (.int .i64 (at' es (i : Int)).kind), .sc (.int .u64 (at' es (i : Int)).txn), .sc (.int .u64 (at' es (i : Int)).prev), .sc (.int .u64 (at' es (i : Int)).next), .sc (.int .u64 (at' es (i : Int)).r.id), .sc (.int .u64 (at' es (i : Int)).r.key), .sc (.int .u32 (at' es (i : Int)).r.x), .sc (.int .u32 (at' es (i : Int)).r.y), .sc (.string (at' es (i : Int)).r.val), .sc (.bool (at' es (i : Int)).r.gh), .sl 225 ((at' es (i : Int)).pages.map imR), .sl 1 ((at' es (i : Int)).act.map acR)]), (23, .sc (.int .i64 (wE (at' es (i : Int)) : Int))), (24, .sc (.int .i64 (off es i : Int)))], m1, b1⟩) ∧ (ri_ = 1 + (off es i + wE (at' es (i : Int)) - z)) ∧ (m0 + 0 ≤ m1) ∧ (∀ k_, k_ < n → b1 k_ = bx k_) ∧ (b1 (n + 0) = .cells [.sc (.int .i64 (sz : Int)), .sl 13 (es.map enC), .sc (.int .i64 (us : Int)), .sc (.int .i64 (dn : Int))]) ∧ (b1 (n + 1) = .tail ((es.take i).map enC).length) ∧ (off es i ≤ z ∧ z ≤ off es i + wE (at' es (i : Int))) ∧ (∀ q, q < z → (okW dn kp) q = true)) (1 + (off es i + wE (at' es (i : Int)) - (off es i))) ⟨_, sle ?_ (Nat.le_refl _), (off es i), _, _, rfl, rfl, ?_⟩ ?_
      · exact t_129
      · exact ⟨by omega, (fun k_ hk_ => t_18), t_158, t_158, ⟨by omega, by omega⟩, hF0_1⟩
      · rintro _ _ ⟨z, m1, b1, rfl, rfl, hm1, hf1, hB1_0, hB1_1, hF1_0, hF1_1⟩
        refine runs_know (fun hd1 => ?_);refine runs_bump 20 ?_;simp only at hd1;refine runs_seq ?_;refine runs_seq ?_;refine runs_region ?_;refine rl0 (gn rfl) rfl rfl (step_mv rfl rfl) trivial ?_;refine rl0 (gn rfl) rfl rfl (step_mv rfl rfl) trivial ?_;refine rl0 (gn rfl) rfl rfl (step_mv rfl rfl) trivial ?_;refine rl0 (gn rfl) rfl rfl (step_add rfl (ev_mk rfl) (ev_mk rfl) (w64 (by omega))) trivial ?_;refine rl_lss (gn rfl) rfl rfl rfl rfl rfl (fun h2 => ?_) (fun h2 => ?_)
        · skip
          refine runsL_nil ?_;refine runs_cond true (ev_mk rfl) (fun _ => ?_) (fun h_ => nomatch h_);refine runs_skip ?_;refine runs_seq ?_;refine runs_block ?_;refine runs_seq ?_;refine runs_region ?_;refine rl0 (gn rfl) rfl rfl (step_mv rfl rfl) trivial ?_;refine rl0 (gn rfl) rfl rfl (step_fieldAddr (off := 3) rfl (ev_mk rfl) Try.underlying31 rfl F.sz3 rfl) trivial ?_;refine' rl0 (gn rfl) rfl rfl (step_load_one rfl (ev_mk rfl) F.one3 ?hv) ⟨?hb, trivial⟩ ?_
          case hb => exact t_9
          case hv => rfl
          refine rl_geq (gn rfl) rfl rfl rfl rfl rfl (fun h3 => ?_) (fun h3 => ?_)
          · skip
            refine rl0 (gn rfl) rfl rfl (step_mv rfl rfl) trivial ?_;refine rl0 (gy rfl rfl rfl rfl rfl rfl) rfl rfl (step_mv rfl rfl) trivial ?_;refine rl0 (gy rfl rfl rfl rfl rfl rfl) rfl rfl (step_fieldAddr (off := 3) rfl (ev_mk rfl) Try.underlying31 rfl F.sz3 rfl) trivial ?_;refine' rl0 (gy rfl rfl rfl rfl rfl rfl) rfl rfl (step_load_one rfl (ev_mk rfl) F.one3 ?hv) ⟨?hb, trivial⟩ ?_
            case hb => exact t_9
            case hv => rfl
            refine rl0 (gy rfl rfl rfl rfl rfl rfl) rfl rfl (step_sub rfl (ev_mk rfl) (ev_mk rfl) (w64 (by omega))) trivial ?_;refine rl0 (gy rfl rfl rfl rfl rfl rfl) rfl rfl (step_mv rfl rfl) trivial ?_;refine rl0 (gy rfl rfl rfl rfl rfl rfl) rfl rfl (step_len (m := kp.length) rfl rfl (ev_mk rfl) (.inl ⟨⟨_, Try.underlying46⟩, .inl ⟨_, _, .inl rfl, List.length_map _⟩⟩)) trivial ?_;refine rl_geq (gy rfl rfl rfl rfl rfl rfl) rfl rfl rfl rfl rfl (fun h4 => ?_) (fun h4 => ?_)
            · skip
              have hbad_ : (okW dn kp) z = false := okW_a (by omega) (by omega)
              refine rl0 (gy rfl rfl rfl rfl rfl rfl) rfl rfl (step_mv rfl rfl) trivial ?_;refine rlk rfl rfl rfl rfl rfl (ngb rfl rfl) rfl rfl ?_;refine rlk rfl rfl rfl rfl rfl (ngb rfl rfl) rfl rfl ?_;refine rlk rfl rfl rfl rfl rfl (ngb rfl rfl) rfl rfl ?_;refine rlk rfl rfl rfl rfl rfl (ngb rfl rfl) rfl rfl ?_;refine rlk rfl rfl rfl rfl rfl (ngb rfl rfl) rfl rfl ?_;refine rlk rfl rfl rfl rfl rfl (ngb rfl rfl) rfl rfl ?_;refine rlk rfl rfl rfl rfl rfl (ngb rfl rfl) rfl rfl ?_;refine rlk rfl rfl rfl rfl rfl (ngb rfl rfl) rfl rfl ?_;refine rl0 (gy rfl rfl rfl rfl rfl rfl) rfl rfl (step_pick rfl (ev_mk rfl) (ev_mk rfl)) trivial ?_;refine rl0 (gn rfl) rfl rfl (step_pick rfl (ev_mk rfl) (ev_mk rfl)) trivial ?_;refine runsL_nil ?_;refine runs_cond true (ev_mk rfl) (fun _ => ?_) (fun h_ => nomatch h_);refine runs_seq ?_;refine runs_region ?_;refine rl0 (gn rfl) rfl rfl (step_mv rfl rfl) trivial ?_;refine rl0 (gn rfl) rfl rfl (step_mv rfl rfl) trivial ?_;refine rl0 (gn rfl) rfl rfl (step_as rfl rfl) trivial ?_;refine rl0 (gn rfl) rfl rfl (step_as rfl rfl) trivial ?_;refine runsL_nil ?_;refine runs_ret ?_;have hst_ : whJ es (okW dn kp) es.length = i := t_103;rw [hst_];refine ⟨t_17, fin_mkg (rest rfl (rest rfl res0)) ?_ ?_ ?_ ?_ ?_⟩
              · exact t_2
              · exact t_1
              · exact t_34
              · exact t_45
              · exact t_1
            · skip
              refine rl0 (gy rfl rfl rfl rfl rfl rfl) rfl rfl (step_mv rfl rfl) trivial ?_;refine rl0 (gy rfl rfl rfl rfl rfl rfl) rfl rfl (step_mv rfl rfl) trivial ?_;refine rl0 (gy rfl rfl rfl rfl rfl rfl) rfl rfl (step_mv rfl rfl) trivial ?_;refine rl0 (gy rfl rfl rfl rfl rfl rfl) rfl rfl (step_fieldAddr (off := 3) rfl (ev_mk rfl) Try.underlying31 rfl F.sz3 rfl) trivial ?_;refine' rl0 (gy rfl rfl rfl rfl rfl rfl) rfl rfl (step_load_one rfl (ev_mk rfl) F.one3 ?hv) ⟨?hb, trivial⟩ ?_
              case hb => exact t_9
              case hv => rfl
              refine rl0 (gy rfl rfl rfl rfl rfl rfl) rfl rfl (step_sub rfl (ev_mk rfl) (ev_mk rfl) (w64 (by omega))) trivial ?_;refine' rl0 (gy rfl rfl rfl rfl rfl rfl) rfl rfl (step_index rfl (ev_mk rfl) (.inl rfl) (ev_mk rfl) Try.underlying46 F.sz4 (by omega) ?hr) trivial ?_
              case hr => exact t_31
              refine rl0 (gy rfl rfl rfl rfl rfl rfl) rfl rfl (step_load_ro rfl (ev_mk rfl) F.one4 rfl) trivial ?_;refine rl0 (gy rfl rfl rfl rfl rfl rfl) rfl rfl (step_unOp rfl (ev_mk rfl) (fun _ => rfl)) trivial ?_;refine rl0 (gy rfl rfl rfl rfl rfl rfl) rfl rfl (step_pick rfl (ev_mk rfl) (ev_mk rfl)) trivial ?_;refine rl0 (gn rfl) rfl rfl (step_pick rfl (ev_mk rfl) (ev_mk rfl)) trivial ?_;refine runsL_nil ?_;refine runs_cond _ (ev_mk rfl) (fun h5 => ?_) (fun h5 => ?_)
              · skip
                have hbad_ : (okW dn kp) z = false := (okW_b (by omega) (by omega)).trans (by have q_ := h5; simpa using q_)
                refine runs_seq ?_;refine runs_region ?_;refine rl0 (gn rfl) rfl rfl (step_mv rfl rfl) trivial ?_;refine rl0 (gn rfl) rfl rfl (step_mv rfl rfl) trivial ?_;refine rl0 (gn rfl) rfl rfl (step_as rfl rfl) trivial ?_;refine rl0 (gn rfl) rfl rfl (step_as rfl rfl) trivial ?_;refine runsL_nil ?_;refine runs_ret ?_;have hst_ : whJ es (okW dn kp) es.length = i := t_103;rw [hst_];refine ⟨t_17, fin_mkg (rest rfl (rest rfl res0)) ?_ ?_ ?_ ?_ ?_⟩
                · exact t_2
                · exact t_1
                · exact t_34
                · exact t_45
                · exact t_1
              · skip
                have hokz_ : (okW dn kp) z = true := (okW_b (by omega) (by omega)).trans (by have q_ := h5; simpa using q_)
                refine runs_skip ?_;refine runs_region ?_;refine rl0 (gn rfl) rfl rfl (step_mv rfl rfl) trivial ?_;refine rl0 (gn rfl) rfl rfl (step_add rfl (ev_mk rfl) (ev_mk rfl) (w64 (by omega))) trivial ?_;refine rl0 (gn rfl) rfl rfl (step_as rfl rfl) trivial ?_;refine runsL_nil ?_;refine ⟨_, _, ?_, sle ?_ (Nat.le_refl _), (z + 1), _, _, rfl, rfl, by omega, (fun k_ hk_ => t_36), t_158, t_158, ⟨by omega, by omega⟩, al_nx hF1_1 hokz_⟩
                · omega
                · exact t_129
          · skip
            have hokz_ : (okW dn kp) z = true := okW_c (by omega)
            refine rl0 (gn rfl) rfl rfl (step_mv rfl rfl) trivial ?_;refine rlk rfl rfl rfl rfl rfl (ngb rfl rfl) rfl rfl ?_;refine rlk rfl rfl rfl rfl rfl (ngb rfl rfl) rfl rfl ?_;refine rlk rfl rfl rfl rfl rfl (ngb rfl rfl) rfl rfl ?_;refine rlk rfl rfl rfl rfl rfl (ngb rfl rfl) rfl rfl ?_;refine rlk rfl rfl rfl rfl rfl (ngb rfl rfl) rfl rfl ?_;refine rlk rfl rfl rfl rfl rfl (ngb rfl rfl) rfl rfl ?_;refine rlk rfl rfl rfl rfl rfl (ngb rfl rfl) rfl rfl ?_;refine rlk rfl rfl rfl rfl rfl (ngb rfl rfl) rfl rfl ?_;refine rlk rfl rfl rfl rfl rfl (ngu rfl) rfl rfl ?_;refine rlk rfl rfl rfl rfl rfl (ngu rfl) rfl rfl ?_;refine rlk rfl rfl rfl rfl rfl (ngu rfl) rfl rfl ?_;refine rlk rfl rfl rfl rfl rfl (ngu rfl) rfl rfl ?_;refine rlk rfl rfl rfl rfl rfl (ngu rfl) rfl rfl ?_;refine rlk rfl rfl rfl rfl rfl (ngu rfl) rfl rfl ?_;refine rlk rfl rfl rfl rfl rfl (ngu rfl) rfl rfl ?_;refine rlk rfl rfl rfl rfl rfl (ngu rfl) rfl rfl ?_;refine rlk rfl rfl rfl rfl rfl (ngb rfl rfl) rfl rfl ?_;refine rl0 (gn rfl) rfl rfl (step_pick rfl (ev_mk rfl) (ev_mk rfl)) trivial ?_;refine runsL_nil ?_;refine runs_cond false (ev_mk rfl) (fun h_ => nomatch h_) (fun _ => ?_);refine runs_skip ?_;refine runs_region ?_;refine rl0 (gn rfl) rfl rfl (step_mv rfl rfl) trivial ?_;refine rl0 (gn rfl) rfl rfl (step_add rfl (ev_mk rfl) (ev_mk rfl) (w64 (by omega))) trivial ?_;refine rl0 (gn rfl) rfl rfl (step_as rfl rfl) trivial ?_;refine runsL_nil ?_;refine ⟨_, _, ?_, sle ?_ (Nat.le_refl _), (z + 1), _, _, rfl, rfl, by omega, (fun k_ hk_ => t_36), t_158, t_158, ⟨by omega, by omega⟩, al_nx hF1_1 hokz_⟩
            · omega
            · exact t_129
        · skip
          refine runsL_nil ?_;refine runs_cond false (ev_mk rfl) (fun h_ => nomatch h_) (fun _ => ?_);refine runs_exit ?_;refine runs_seq ?_;refine runs_region ?_;refine rl0 (gn rfl) rfl rfl (step_mv rfl rfl) trivial ?_;refine rl0 (gn rfl) rfl rfl (step_fieldAddr (off := 1) rfl (ev_mk rfl) Try.underlying31 rfl F.sz24 rfl) trivial ?_;refine' rl0 (gn rfl) rfl rfl (step_load_one rfl (ev_mk rfl) F.one24 ?hv) ⟨?hb, trivial⟩ ?_
          case hb => exact t_9
          case hv => rfl
          refine rl0 (gn rfl) rfl rfl (step_mv rfl rfl) trivial ?_;refine' rl0 (gn rfl) rfl rfl (step_index rfl (ev_mk rfl) (.inl rfl) (ev_mk rfl) Try.underlying24 F.sz40 (by omega) ?hr) trivial ?_
          case hr => exact t_31
          refine rl0 (gn rfl) rfl rfl (step_load_ro_all rfl rfl F.agg40 t_15) trivial ?_;refine rl0 (gn rfl) rfl rfl (step_lit rfl Try.underlying24 F.sz40 F.zero40 t_33 t_139 (by decide) rfl rfl t_21 rfl) trivial ?_;refine' rl1 (gn rfl) rfl rfl (step_append_own rfl rfl rfl Try.underlying24 ⟨_, Try.underlying24, fun k_ => t_49⟩ F.el40 (ev_mk rfl) (ev_mk rfl) (gives_sl (.inr (.inl rfl))) ?hg) ⟨?hb, trivial⟩ (by omega) ?_
          case hb => exact t_9
          case hg => (simp; omega)
          refine rl0 (gn rfl) rfl rfl (step_as rfl rfl) trivial ?_;refine runsL_nil ?_;refine runs_region ?_;refine rl0 (gn rfl) rfl rfl (step_mv rfl rfl) trivial ?_;refine rl0 (gn rfl) rfl rfl (step_mv rfl rfl) trivial ?_;refine rl0 (gn rfl) rfl rfl (step_add rfl (ev_mk rfl) (ev_mk rfl) (w64 (by omega))) trivial ?_;refine rl0 (gn rfl) rfl rfl (step_as rfl rfl) trivial ?_;refine runsL_nil ?_;refine runs_region ?_;refine rl0 (gn rfl) rfl rfl (step_mv rfl rfl) trivial ?_;refine rl0 (gn rfl) rfl rfl (step_add rfl (ev_mk rfl) (ev_mk rfl) (w64 (by omega))) trivial ?_;refine rl0 (gn rfl) rfl rfl (step_as rfl rfl) trivial ?_;refine runsL_nil ?_;have hq0_ : (((es.take i).map enC) ++ [[V.sc (.int .u64 (at' es (i : Int)).lsn), V.sc (.int .i64 (at' es (i : Int)).kind), V.sc (.int .u64 (at' es (i : Int)).txn), V.sc (.int .u64 (at' es (i : Int)).prev), V.sc (.int .u64 (at' es (i : Int)).next), V.sc (.int .u64 (at' es (i : Int)).r.id), V.sc (.int .u64 (at' es (i : Int)).r.key), V.sc (.int .u32 (at' es (i : Int)).r.x), V.sc (.int .u32 (at' es (i : Int)).r.y), V.sc (.string (at' es (i : Int)).r.val), V.sc (.bool (at' es (i : Int)).r.gh), V.sl 225 ((at' es (i : Int)).pages.map imR), V.sl 1 ((at' es (i : Int)).act.map acR)]]) = ((es.take (i + 1)).map enC) := by exact take_enS hi_
          have hq1_ : ((off es i : Int) + (wE (at' es (i : Int)) : Int)) = (off es (i + 1) : Int) := by (show _ = ((off es i + wE (at' es (i : Int)) : Nat) : Int); omega)
          refine ⟨_, _, ?_, sle ?_ (Nat.le_refl _), (i + 1), _, _, rfl, rfl, by omega, (fun k_ hk_ => t_51), t_170, t_170, (by omega), (fun q_ h_ => hF1_1 q_ (by have e_ : off es (i + 1) = off es i + wE (at' es (i : Int)) := rfl; omega))⟩
          · omega
          · (repeat' (first | exact trivial | refine ⟨⟨_, rfl, ?_⟩, ?_⟩ | fail)); all_goals (repeat' (first | exact VLe.refl _ | exact VLe.own_sl _ _ _ | exact VLe.fl_sl _ _ | exact VLe.nil_sl _ | exact VLe.nil_fl _ | exact VLes.refl _ | exact .nil | refine VLe.tup ?_ | refine VLe.agg ?_ | refine .cons ?_ ?_ | (rw [Int.natCast_add]; exact VLe.refl _) | exact vle_int (by omega) | exact vle_bool t_159 | (rw [← hq0_]; exact VLe.refl _) | (rw [hq0_]; exact VLe.refl _) | (rw [← hq1_]; exact VLe.refl _) | (rw [hq1_]; exact VLe.refl _) | fail))
    · skip
      refine runsL_nil ?_;refine runs_cond false (ev_mk rfl) (fun h_ => nomatch h_) (fun _ => ?_);refine runs_exit ?_;refine runs_seq ?_;refine runs_region ?_;refine rl0 (gn rfl) rfl rfl (step_mv rfl rfl) trivial ?_;refine rl0 (gn rfl) rfl rfl (step_mv rfl rfl) trivial ?_;refine rl0 (gn rfl) rfl rfl (step_as rfl rfl) trivial ?_;refine rl0 (gn rfl) rfl rfl (step_as rfl rfl) trivial ?_;refine runsL_nil ?_;refine runs_ret ?_;have hst_ : whJ es (okW dn kp) es.length = i := t_103;rw [hst_];refine ⟨t_17, fin_mkg (rest rfl (rest rfl res0)) ?_ ?_ ?_ ?_ ?_⟩
      · exact t_2
      · exact t_1
      · exact t_147
      · exact t_45
      · exact t_1
end Go.Proofs.Ytdmkhpnjjpeeaaa
