/- Walks by the logic of values. -/
import Derived.Test.YtdmkhpnjjpeeaaaKnVmT
import Derived.Test.YtdmkhpnjjpeeaaaKnWa
import Derived.Test.YtdmkhpnjjpeeaaaKnWd
import Derived.Test.YtdmkhpnjjpeeaaaKnWe
import Derived.Test.YtdmkhpnjjpeeaaaKnVe
import Derived.Test.YtdmkhpnjjpeeaaaKnVl
import Derived.Test.YtdmkhpnjjpeeaaaKnWf
import Derived.Test.YtdmkhpnjjpeeaaaKnVmZ
import Derived.Test.YtdmkhpnjjpeeaaaKnVt
namespace Go.Proofs.Ytdmkhpnjjpeeaaa
open Go.Vm
set_option linter.unusedVariables false
set_option linter.unusedSimpArgs false
open Crc
instance : Inhabited En := ⟨zEn⟩
attribute [local irreducible] Go.Vm.beB
def bE (e : En) : List Int := sealB (bodyB e)
def wE (e : En) : Nat := nS (bE e)
abbrev enAt (e : En) (u : Int) : En := { e with lsn := u }
def okL (e : En) : Prop := okEn e ∧ chkF e = 0
theorem chk_lens {e : En} (h2 : chkF e = 0) : e.pages.length ≤ 24 ∧ e.act.length ≤ 64 := by
  unfold chkF at h2
  split at h2
  · omega
  · split at h2
    · omega
    · split at h2
      · omega
      · omega
theorem okL.len {e : En} (h : okL e) : e.pages.length ≤ 24 ∧ e.act.length ≤ 64 := chk_lens h.2
theorem bE_len {e : En} (h : okL e) : 1 ≤ (bE e).length ∧ (bE e).length ≤ 6100 := by
  have := bodyB_len h.2
  have := h.len
  unfold bE; rw [sealB_len]; omega
theorem bE_byts {e : En} (h : okL e) : Byts (bE e) := sealB_byts (bodyB_byts h.1 h.2)
theorem wE_bd {e : En} (h : okL e) : 1 ≤ wE e ∧ wE e ≤ 113 := by have := bE_len h; unfold wE nS; omega
theorem okEn_at {e : En} {u : Int} (h : okEn e) (hu : U64 u) : okEn (enAt e u) := ⟨hu, h.2⟩
theorem at_memE {l : List En} {i : Nat} (h : (i : Int) < l.length) : at' l (i : Int) ∈ l := by rw [at_nat _ _ (by omega)]; exact List.getElem_mem _
theorem oatE {l : List En} {i : Nat} (h : (i : Int) < l.length) : l[i]? = some (at' l (i : Int)) := by rw [List.getElem?_eq_getElem (by omega), at_nat _ _ (by omega)]
set_option maxRecDepth 100000 in
set_option maxHeartbeats 4000000 in
theorem sectors_c (b : List Int) (hl : b.length ≤ 1000000) : Does Try.prog 10 [.sc (.int .i64 (b.length : Int))] [] [] (.sc (.int .i64 (nS b : Int))) := by
  refine does_mkg 40 Try.func10 rfl rfl rfl (fun n B bx hd hpre hup hvs hbx hgx => ?_)
  refine runs_seq ?_
  refine runs_region ?_
  refine rl0 (gn rfl) rfl rfl (step_as rfl rfl) trivial ?_
  refine runsL_nil ?_
  refine runs_seq ?_
  refine runs_region ?_
  refine rl0 (gn rfl) rfl rfl (step_mv rfl rfl) trivial ?_
  refine rl0 (gn rfl) rfl rfl (step_maxr (r := (b.length : Int)) rfl (ev_mk rfl) (ev_mk rfl) (by split <;> omega)) trivial ?_
  refine rl0 (gn rfl) rfl rfl (step_add rfl (ev_mk rfl) (ev_mk rfl) (w64 (by omega))) trivial ?_
  refine rl0 (gn rfl) rfl rfl (step_sub rfl (ev_mk rfl) (ev_mk rfl) (w64 (by omega))) trivial ?_
  refine rl0 (gn rfl) rfl rfl (step_quo rfl (ev_mk rfl) (ev_mk rfl) (by omega) (by omega) (w64 (by omega))) trivial ?_
  refine rl0 (gn rfl) rfl rfl (step_as rfl rfl) trivial ?_
  refine runsL_nil ?_
  refine runs_ret ?_
  refine ⟨by first | exact .inr rfl | exact .inl rfl, fin_mkg (rest rfl res0) ?_ ?_ ?_ ?_ ?_⟩
  · (repeat' (first | exact VLe.refl _ | exact VLe.own_sl _ _ _ | exact VLe.fl_sl _ _ | exact VLe.nil_sl _ | exact VLe.nil_fl _ | exact VLes.refl _ | exact .nil | refine VLe.tup ?_ | refine VLe.agg ?_ | refine .cons ?_ ?_ | (rw [Int.natCast_add]; exact VLe.refl _) | exact vle_int (by omega) | exact vle_bool (by first | rfl | assumption | (simp_all; done) | fail) | (exact vle_int (by unfold nS; omega)) | fail))
  · repeat (first | exact trivial | assumption | omega | (refine bdR_map (fun _ => ?_)) | (refine bdL_map (fun _ => ?_)) | refine ⟨?_, ?_⟩ | fail)
  · intro k_ hk_; exact ble (by repeat (first | exact rfl | refine uN (by omega) ?_ | assumption | fail))
  · intro p hp; cases hp
  · repeat (first | exact trivial | assumption | omega | (refine bdR_map (fun _ => ?_)) | (refine bdL_map (fun _ => ?_)) | refine ⟨?_, ?_⟩ | fail)
end Go.Proofs.Ytdmkhpnjjpeeaaa

/- Walks by the logic of values. -/
namespace Go.Proofs.Ytdmkhpnjjpeeaaa
open Go.Vm
set_option linter.unusedVariables false
set_option linter.unusedSimpArgs false
open Crc
attribute [local irreducible] Go.Vm.beB
def off (es : List En) : Nat → Nat
  | 0 => 0
  | j + 1 => off es j + wE (at' es (j : Int))
structure LogOK (es : List En) : Prop where
  ok : ∀ e ∈ es, okL e
  lsn : ∀ j : Nat, j < es.length → (at' es (j : Int)).lsn = (off es j : Int) + 1
theorem LogOK.ent {es : List En} (h : LogOK es) {j : Nat} (hj : j < es.length) : okL (at' es (j : Int)) := h.ok _ (at_memE (by omega))
theorem off_mono {es : List En} : ∀ {a b : Nat}, a ≤ b → off es a ≤ off es b
  | a, 0, h => by obtain rfl : a = 0 := by omega
                  exact Nat.le_refl _
  | a, b + 1, h => by
    by_cases e : a = b + 1
    · subst e; exact Nat.le_refl _
    · have := off_mono (es := es) (show a ≤ b by omega); show _ ≤ off es b + _; omega
/-- What sectors hold: those that are there are the log's, the others noughts. -/
structure TK (es : List En) (T : List (List Int)) (ok : Nat → Bool) : Prop where
  yes : ∀ j r : Nat, j < es.length → r < wE (at' es (j : Int)) → ok (off es j + r) = true → off es j + r < T.length ∧ at' T ((off es j + r : Nat) : Int) = secA (bE (at' es (j : Int))) (off es j) r
  no : ∀ i : Nat, i < T.length → ok i = false → at' T (i : Int) = List.replicate 64 0
  out : ∀ i : Nat, off es es.length ≤ i → ok i = false
def whJ (es : List En) (ok : Nat → Bool) : Nat → Nat
  | 0 => 0
  | j + 1 => if (List.range (off es (j + 1))).all ok = true then j + 1 else whJ es ok j
theorem whJ_top {es : List En} {ok : Nat → Bool} {j : Nat} (h : ∀ q, q < off es j → ok q = true) : whJ es ok j = j := by
  cases j with
  | zero => rfl
  | succ j => show (if _ then _ else _) = _; rw [if_pos (List.all_eq_true.2 fun q hq => h q (List.mem_range.1 hq))]
theorem whJ_eq {es : List En} {ok : Nat → Bool} {j i : Nat} (h : ∀ q, q < off es j → ok q = true) (hi : ok i = false) (hlt : i < off es (j + 1)) : ∀ {n : Nat}, j ≤ n → whJ es ok n = j
  | 0, hn => by obtain rfl : j = 0 := by omega
                rfl
  | n + 1, hn => by
    by_cases e : j = n + 1
    · subst e; exact whJ_top h
    · show (if _ then _ else _) = _
      rw [if_neg, whJ_eq h hi hlt (by omega)]
      intro ha
      have := List.all_eq_true.1 ha i (List.mem_range.2 (Nat.lt_of_lt_of_le hlt (off_mono (by omega))))
      rw [hi] at this; cases this
structure Jn (es : List En) (ok : Nat → Bool) (i j r : Nat) : Prop where
  jl : j ≤ es.length
  rl : j < es.length → r < wE (at' es (j : Int))
  r0 : j = es.length → r = 0
  atE : i = off es j + r
  al : ∀ q, q < i → ok q = true
theorem Jn.zero {es : List En} {ok : Nat → Bool} (h : LogOK es) : Jn es ok 0 0 0 := ⟨by omega, fun hj => by have := wE_bd (h.ent hj); omega, fun _ => rfl, rfl, fun q hq => by omega⟩
theorem Jn.stop {es : List En} {ok : Nat → Bool} {i j r : Nat} (s : Jn es ok i j r) (h : ok i = false) : whJ es ok es.length = j := by
  have h1 : ∀ q, q < off es j → ok q = true := fun q hq => s.al q (by have := s.atE; omega)
  by_cases e : j = es.length
  · rw [← e]; exact whJ_top h1
  · refine whJ_eq h1 h ?_ s.jl
    have h2 := s.rl (by have := s.jl; omega)
    have h3 := s.atE
    show i < off es j + _; omega
theorem Jn.mid {es : List En} {ok : Nat → Bool} {i j r : Nat} (s : Jn es ok i j r) (h : ok i = true) (hj : j < es.length) (hr : r + 1 < wE (at' es (j : Int))) : Jn es ok (i + 1) j (r + 1) :=
  ⟨s.jl, fun _ => hr, fun e => by omega, by have := s.atE; omega, fun q hq => by
    by_cases e : q = i
    · subst e; exact h
    · exact s.al q (by omega)⟩
theorem Jn.last {es : List En} {ok : Nat → Bool} {i j r : Nat} (s : Jn es ok i j r) (hl : LogOK es) (h : ok i = true) (hj : j < es.length) (hr : r + 1 = wE (at' es (j : Int))) : Jn es ok (i + 1) (j + 1) 0 :=
  ⟨by omega, fun hj2 => by have := wE_bd (hl.ent hj2); omega, fun _ => rfl, by have := s.atE; show i + 1 = off es j + _ + 0; omega, fun q hq => by
    by_cases e : q = i
    · subst e; exact h
    · exact s.al q (by omega)⟩
theorem Jn.in {es : List En} {T : List (List Int)} {ok : Nat → Bool} {i j r : Nat} (s : Jn es ok i j r) (t : TK es T ok) (h : ok i = true) : j < es.length := by
  have h1 := s.jl
  refine Nat.lt_of_le_of_ne h1 fun e => ?_
  have h2 := t.out i (by have := s.atE; have := s.r0 e; subst e; omega)
  rw [h] at h2; cases h2
theorem chk_take {b : List Int} {r : Nat} : bytesV (b.take (54 * r)) ++ bytesV (chk b r) = bytesV (b.take (54 * (r + 1))) := by
  unfold bytesV chk
  rw [← List.map_append, show 54 * (r + 1) = 54 * r + 54 by omega, List.take_add]
theorem take_all {b : List Int} {r : Nat} (h : r + 1 = nS b) : bytesV (b.take (54 * (r + 1))) = bytesV b := by
  rw [List.take_of_length_le (by unfold nS at h; omega)]
theorem take_enS {es : List En} {j : Nat} (h : j < es.length) : (es.take j).map enC ++ [enC (at' es (j : Int))] = (es.take (j + 1)).map enC := by
  rw [List.take_add_one, oatE (by omega), List.map_append]; rfl
theorem chk_pos {b : List Int} {r : Nat} (h : r < nS b) : 1 ≤ (chk b r).length := by
  have := chk_f b r; have := (nS_lt (b := b) (i := r)).2 h; omega
set_option maxRecDepth 100000 in
set_option maxHeartbeats 4000000 in
theorem join_c (ka : Nat) (es : List En) (T : List (List Int)) (ok : Nat → Bool) (hes : LogOK es) (hl : es.length ≤ 100000 ∧ T.length ≤ 100000) (hT : TK es T ok) (h64 : ∀ x ∈ T, x.length = 64) (hk : ∀ q, T.length ≤ q → ok q = false) : Does Try.prog 14 [.sl 64 (secsV T)] [(ka, .dead)] [(ka, .tail ((es.take (whJ es ok es.length)).map enC).length)] (.tup [.own 13 ((es.take (whJ es ok es.length)).map enC) ka, .sc (.int .i64 (off es (whJ es ok es.length) : Int))]) := by
  refine does_mkg 40 Try.func14 rfl rfl rfl (fun n B bx hd hpre hup hvs hbx hgx => ?_)
  have hp0 := hpre.1
  have hz0 := hp0
  have hu0 := hup.1
  refine runs_seq ?_
  refine runs_region ?_
  refine rl0 (gn rfl) rfl rfl (step_as rfl rfl) trivial ?_
  refine rl0 (gn rfl) rfl rfl (step_as rfl rfl) trivial ?_
  refine runsL_nil ?_
  refine runs_scope ?_
  refine runs_seq ?_
  refine runs_region ?_
  refine rl0 (gn rfl) rfl rfl (step_as rfl rfl) trivial ?_
  refine runsL_nil ?_
  refine runs_seq ?_
  refine runs_region ?_
  refine rl0 (gn rfl) rfl rfl (step_as rfl rfl) trivial ?_
  refine runsL_nil ?_
  refine runs_seq ?_
  refine runs_region ?_
  refine rl0 (gn rfl) rfl rfl (step_as rfl rfl) trivial ?_
  refine runsL_nil ?_
  refine runs_seq ?_
  refine runs_label ?_
  refine runs_seq ?_
  refine runs_seq ?_
  refine runs_region ?_
  refine rl0 (gn rfl) rfl rfl (step_mv rfl rfl) trivial ?_
  refine rl0 (gn rfl) rfl rfl (step_len (m := T.length) rfl rfl (ev_mk rfl) (.inl ⟨⟨_, Try.underlying27⟩, .inl ⟨_, _, .inl rfl, List.length_map _⟩⟩)) trivial ?_
  refine rl0 (gn rfl) rfl rfl (step_mv rfl rfl) trivial ?_
  refine runsL_nil ?_
  refine runs_block ?_
  refine runs_grow (l' := []) (d := 4) (k := ka) (e := 13) (xs := []) rfl (.inr ⟨rfl, rfl⟩) (by repeat (first | exact uE | refine uN (by omega) ?_ | assumption | exact hd _ (by omega) | fail)) (by omega) ?_
  refine runs_grow (l' := []) (d := 5) (k := n + 0) (e := 1) (xs := []) rfl (.inr ⟨rfl, rfl⟩) (by repeat (first | exact uE | refine uN (by omega) ?_ | assumption | exact hd _ (by omega) | fail)) (by omega) ?_
  have hs0_ : [] = ((es.take 0).map enC) := by rfl
  have hs1_ : [] = ((bytesV ((bE (at' es (0 : Int))).take (54 * 0)))) := by rfl
  have hs2_ : 0 = (off es 0 : Int) := by rfl
  refine runs_loop (fun (ri_ : Nat) (st_ : Go.Vm.S) => ∃ (i j r kb : Nat) (m0 : Nat) (b0 : Nat → Box), (st_ = ⟨mk [(2, .sc (.slice none 0 0)), (3, .sc (.int .i64 0)), (4, .own 13 ((es.take j).map enC) ka), (5, .own 1 (bytesV ((bE (at' es (j : Int))).take (54 * r))) kb), (6, .sc (.int .i64 (off es j : Int))), (15, .sl 64 (secsV T)), (16, .sc (.int .i64 T.length)), (17, .sc (.int .i64 (i : Int)))], m0, b0⟩) ∧ (ri_ = 1 + (T.length - i)) ∧ (n + 1 ≤ m0) ∧ (∀ k_, k_ < n → k_ ≠ ka → b0 k_ = bx k_) ∧ (b0 ka = .tail ((es.take j).map enC).length) ∧ (b0 kb = .tail (bytesV ((bE (at' es (j : Int))).take (54 * r))).length) ∧ (i ≤ T.length) ∧ (Jn es ok i j r) ∧ (n ≤ kb ∧ kb < m0)) (1 + (T.length - 0)) ⟨_, sle ?_ (Nat.le_refl _), 0, 0, 0, (n + 0), _, _, rfl, rfl, ?_⟩ ?_
  · (repeat' (first | exact trivial | refine ⟨⟨_, rfl, ?_⟩, ?_⟩ | fail)); all_goals (repeat' (first | exact VLe.refl _ | exact VLe.own_sl _ _ _ | exact VLe.fl_sl _ _ | exact VLe.nil_sl _ | exact VLe.nil_fl _ | exact VLes.refl _ | exact .nil | refine VLe.tup ?_ | refine VLe.agg ?_ | refine .cons ?_ ?_ | (rw [Int.natCast_add]; exact VLe.refl _) | exact vle_int (by omega) | exact vle_bool (by first | rfl | assumption | (simp_all; done) | fail) | (rw [← hs0_]; exact VLe.refl _) | (rw [hs0_]; exact VLe.refl _) | (rw [← hs1_]; exact VLe.refl _) | (rw [hs1_]; exact VLe.refl _) | (rw [← hs2_]; exact VLe.refl _) | (rw [hs2_]; exact VLe.refl _) | fail))
  · exact ⟨by omega, (fun k_ hk_ e0_ => by repeat (first | exact rfl | refine uN (by omega) ?_ | assumption | fail)), by first | ((repeat (first | exact uE | assumption | refine uN (by omega) ?_ | fail)); done) | exact tl_eq (by repeat (first | exact uE | assumption | refine uN (by omega) ?_ | fail)) (by first | rfl | (simp [bytesV, beB_len]; done) | (simp [bytesV, beB_len]; omega) | omega) | (rw [← hs0_]; (repeat (first | exact uE | assumption | refine uN (by omega) ?_ | fail)); done) | (rw [← hs1_]; (repeat (first | exact uE | assumption | refine uN (by omega) ?_ | fail)); done) | (rw [← hs2_]; (repeat (first | exact uE | assumption | refine uN (by omega) ?_ | fail)); done) | (rw [← hs0_, ← hs1_, ← hs2_]; (repeat (first | exact uE | assumption | refine uN (by omega) ?_ | fail)); done), by first | ((repeat (first | exact uE | assumption | refine uN (by omega) ?_ | fail)); done) | exact tl_eq (by repeat (first | exact uE | assumption | refine uN (by omega) ?_ | fail)) (by first | rfl | (simp [bytesV, beB_len]; done) | (simp [bytesV, beB_len]; omega) | omega) | (rw [← hs0_]; (repeat (first | exact uE | assumption | refine uN (by omega) ?_ | fail)); done) | (rw [← hs1_]; (repeat (first | exact uE | assumption | refine uN (by omega) ?_ | fail)); done) | (rw [← hs2_]; (repeat (first | exact uE | assumption | refine uN (by omega) ?_ | fail)); done) | (rw [← hs0_, ← hs1_, ← hs2_]; (repeat (first | exact uE | assumption | refine uN (by omega) ?_ | fail)); done), (by omega), Jn.zero hes, ⟨by omega, by omega⟩⟩
  · rintro _ _ ⟨i, j, r, kb, m0, b0, rfl, rfl, hm0, hf0, hB0_0, hB0_1, hF0_0, hF0_1, hF0_2⟩
    refine runs_know (fun hd0 => ?_)
    refine runs_bump 20 ?_
    simp only at hd0
    have hJa_ := hF0_1.atE
    have hJl_ := hF0_1.jl
    refine runs_seq ?_
    refine runs_region ?_
    refine rl_lss (gn rfl) rfl rfl rfl rfl rfl (fun h1 => ?_) (fun h1 => ?_)
    · skip
      refine runsL_nil ?_
      refine runs_seq ?_
      refine runs_cond true (ev_mk rfl) (fun _ => ?_) (fun h_ => nomatch h_)
      refine runs_skip ?_
      refine runs_seq ?_
      refine runs_block ?_
      refine runs_seq ?_
      refine runs_region ?_
      rcases (show ok i = true ∨ ok i = false by cases ok i <;> simp) with hcs_ | hcs_
      · skip
        have hj_ := hF0_1.in hT hcs_
        have hr_ := hF0_1.rl hj_
        have hTi_ : (at' T (i : Int)) = (mkS ((i + 1 : Nat) : Int) (flS (bE (at' es (j : Int))) r) ((chk (bE (at' es (j : Int))) r).length : Int) (chk (bE (at' es (j : Int))) r)) := (by have q_ := (hT.yes j r hj_ hr_ (by rw [← hJa_]; exact hcs_)).2; rw [← hJa_] at q_; rw [q_]; unfold secA; rw [← hJa_])
        have h64i_ : (at' T (i : Int)).length = 64 := h64 _ (at_mem (xs := T) (i := (i : Int)) (by omega) (by omega))
        have hwd_ := wE_bd (hes.ent hj_)
        have hcp_ := chk_pos hr_
        have hcl_ := chk_len (bE (at' es (j : Int))) r
        have hrw_ : r + 1 = wE (at' es (j : Int)) → bytesV ((bE (at' es (j : Int))).take (54 * r)) ++ bytesV (chk (bE (at' es (j : Int))) r) = bytesV (bE (at' es (j : Int))) := fun h_ => chk_take.trans (take_all h_)
        have htl_ : ((bE (at' es (j : Int))).take (54 * r)).length ≤ 6100 := (by have h1_ := (bE_len (hes.ent hj_)).2; have h2_ := (List.take_sublist (54 * r) (bE (at' es (j : Int)))).length_le; omega)
        have hlsn_ := hes.lsn j hj_
        have hjl_ : (es.take j).length ≤ es.length := (List.take_sublist j es).length_le
        refine rl0 (gn rfl) rfl rfl (step_mv rfl rfl) trivial ?_
        refine' rl0 (gn rfl) rfl rfl (step_index rfl (ev_mk rfl) (.inl rfl) (ev_mk rfl) Try.underlying27 F.sz47 (by omega) ?hr) trivial ?_
        case hr => exact map_at _ _ _ (by omega) (by omega)
        refine rl0 (gn rfl) rfl rfl (step_load_ro_all rfl rfl F.agg47 (by first | rfl | (simp; done) | (first | (rw [List.length_map]; exact h64i_) | (rw [List.length_map, mkS_len (chk_len _ _)]; omega) | (rw [List.length_map, mkS_len (chk_len _ _)]; done)))) trivial ?_
        refine rl1 (gn rfl) rfl rfl (step_allocc (k := m0 + 0) (zs := (List.replicate 64 (.int .u8 0))) (cs := List.replicate 64 (.sc (.int .u8 0))) rfl F.zero47 (by first | rfl | simp) (by first | rfl | decide | simp) (by first | rfl | simp)) ⟨by repeat (first | exact uE | refine uN (by omega) ?_ | assumption | exact hd _ (by omega) | exact hd0 _ (by omega) | fail), trivial⟩ (by omega) ?_
        refine rl0 (gn rfl) rfl rfl (step_as rfl rfl) trivial ?_
        refine' rls (gn rfl) rfl (step_storeA rfl rfl rfl rfl F.agg47 ?hm ?hl) ⟨?hb, trivial⟩ ?hk ?_
        case hb => repeat (first | exact uE | refine uN (by omega) ?_ | assumption | exact hd _ (by omega) | exact hd0 _ (by omega) | fail)
        case hm => first | rfl | (simp; done) | (first | (rw [List.length_map]; exact h64i_) | (rw [List.length_map, mkS_len (chk_len _ _)]; omega) | (rw [List.length_map, mkS_len (chk_len _ _)]; done))
        case hl => first | rfl | (simp; done) | (first | (rw [List.length_map]; exact h64i_) | (rw [List.length_map, mkS_len (chk_len _ _)]; omega) | (rw [List.length_map, mkS_len (chk_len _ _)]; done))
        case hk => omega
        refine runsL_nil ?_
        refine runs_seq ?_
        refine runs_region ?_
        refine' rl0 (gn rfl) rfl rfl (step_load_all rfl rfl F.agg47 ?hl) ⟨?hb, trivial⟩ ?_
        case hb => repeat (first | exact uE | refine uN (by omega) ?_ | assumption | exact hd _ (by omega) | exact hd0 _ (by omega) | fail)
        case hl => first | rfl | (simp; done) | (first | (rw [List.length_map]; exact h64i_) | (rw [List.length_map, mkS_len (chk_len _ _)]; omega) | (rw [List.length_map, mkS_len (chk_len _ _)]; done))
        refine rl0 (gn rfl) rfl rfl (step_mv rfl rfl) trivial ?_
        refine rl1 (gn rfl) rfl rfl (step_callc rfl Try.func38 rfl rfl rfl (part_s i (m0 + 1) (flS (bE (at' es (j : Int))) r) (chk (bE (at' es (j : Int))) r) (flS_4 _ _) ⟨hcp_, hcl_⟩ (by omega)) (by repeat (first | exact .nil | refine .cons ?_ ?_ | exact VLe.refl _ | (rw [hTi_]; exact VLe.refl _) | (rw [hrw_]; exact VLe.own_sl _ _ _) | exact vle_int (by omega) | exact VLe.own_sl _ _ _ | exact VLe.fl_sl _ _ | exact VLe.nil_sl _ | exact VLe.nil_fl _ | refine VLe.agg ?_))) ⟨by repeat (first | exact uE | refine uN (by omega) ?_ | assumption | exact hd _ (by omega) | exact hd0 _ (by omega) | fail), trivial⟩ (by omega) ?_
        refine rl0 (gn rfl) rfl rfl (step_mv rfl rfl) trivial ?_
        refine rl0 (gn rfl) rfl rfl (step_extract rfl (ev_mk rfl) rfl) trivial ?_
        refine rl0 (gn rfl) rfl rfl (step_extract rfl (ev_mk rfl) rfl) trivial ?_
        refine rl0 (gn rfl) rfl rfl (step_extract rfl (ev_mk rfl) rfl) trivial ?_
        refine rl0 (gn rfl) rfl rfl (step_extract rfl (ev_mk rfl) rfl) trivial ?_
        refine rl0 (gn rfl) rfl rfl (step_as rfl rfl) trivial ?_
        refine rl0 (gn rfl) rfl rfl (step_as rfl rfl) trivial ?_
        refine rl0 (gn rfl) rfl rfl (step_as rfl rfl) trivial ?_
        refine rl0 (gn rfl) rfl rfl (step_as rfl rfl) trivial ?_
        refine runsL_nil ?_
        refine runs_seq ?_
        refine runs_seq ?_
        refine runs_region ?_
        refine rl0 (gn rfl) rfl rfl (step_mv rfl rfl) trivial ?_
        refine rl0 (gn rfl) rfl rfl (step_unOp (c := .bool false) rfl (ev_mk rfl) (fun _ => rfl)) trivial ?_
        refine rl0 (gn rfl) rfl rfl (step_mv rfl rfl) trivial ?_
        refine rl0 (gy rfl rfl rfl rfl rfl rfl) rfl rfl (step_mv rfl rfl) trivial ?_
        refine rl0 (gy rfl rfl rfl rfl rfl rfl) rfl rfl (step_mv rfl rfl) trivial ?_
        refine rl0 (gy rfl rfl rfl rfl rfl rfl) rfl rfl (step_mv rfl rfl) trivial ?_
        refine rl_eql (gy rfl rfl rfl rfl rfl rfl) rfl rfl rfl rfl rfl (fun h2 => ?_) (fun h2 => ?_)
        · skip
          refine rl0 (gy rfl rfl rfl rfl rfl rfl) rfl rfl (step_neqb rfl (ev_mk rfl) (ev_mk rfl) Try.underlying4) trivial ?_
          refine rl_know (d := 37) (c := false) rfl (by rw [flS_1, decide_eq_true (show r = 0 by omega)]; rfl) ?_
          refine rl0 (gn rfl) rfl rfl (step_pick rfl (ev_mk rfl) (ev_mk rfl)) trivial ?_
          refine runsL_nil ?_
          refine runs_cond false (ev_mk rfl) (fun h_ => nomatch h_) (fun _ => ?_)
          refine runs_skip ?_
          refine runs_seq ?_
          refine runs_region ?_
          refine rl0 (gn rfl) rfl rfl (step_mv rfl rfl) trivial ?_
          refine rl0 (gn rfl) rfl rfl (step_mv rfl rfl) trivial ?_
          refine' rl1 (gn rfl) rfl rfl (step_append_own rfl rfl rfl Try.underlying22 ⟨_, Try.underlying22, fun k_ => by intro h_; cases h_⟩ F.el5 (ev_mk rfl) (ev_mk rfl) (gives_msl (ys := bytesV (chk (bE (at' es (j : Int))) r)) ?gl ?gy) ?hg) ⟨?hb, ?gb, trivial⟩ (by omega) ?_
          case hb => repeat (first | exact uE | refine uN (by omega) ?_ | assumption | exact hd _ (by omega) | exact hd0 _ (by omega) | fail)
          case gb => repeat (first | exact uE | refine uN (by omega) ?_ | assumption | exact hd _ (by omega) | exact hd0 _ (by omega) | fail)
          case gl => (rw [List.length_map, mkS_len (chk_len _ _)]; omega)
          case gy => (rw [chk_at (chk_len _ _)]; exact rows1 _)
          case hg => (simp [bytesV]; omega)
          refine rl0 (gn rfl) rfl rfl (step_as rfl rfl) trivial ?_
          refine runsL_nil ?_
          refine runs_seq ?_
          refine runs_seq ?_
          refine runs_region ?_
          refine rl0 (gn rfl) rfl rfl (step_mv rfl rfl) trivial ?_
          refine rl0 (gn rfl) rfl rfl (step_unOp rfl (ev_mk rfl) (fun _ => rfl)) trivial ?_
          refine runsL_nil ?_
          refine runs_cond _ (ev_mk rfl) (fun h3 => ?_) (fun h3 => ?_)
          · skip
            have hla_ : ¬ (r + 1 = wE (at' es (j : Int))) := (by have q_ := h3; rw [flS_2] at q_; show ¬ (r + 1 = nS (bE (at' es (j : Int)))); simpa using q_)
            refine runs_exit ?_
            refine runs_region ?_
            refine rl0 (gn rfl) rfl rfl (step_add rfl (ev_mk rfl) (ev_mk rfl) (w64 (by omega))) trivial ?_
            refine rl0 (gn rfl) rfl rfl (step_mv rfl rfl) trivial ?_
            refine runsL_nil ?_
            have hq0_ : ((bytesV ((bE (at' es (j : Int))).take (54 * r))) ++ (bytesV (chk (bE (at' es (j : Int))) r))) = ((bytesV ((bE (at' es (j : Int))).take (54 * (r + 1))))) := by exact chk_take
            refine ⟨_, _, ?_, sle ?_ (Nat.le_refl _), (i + 1), j, (r + 1), kb, _, _, rfl, rfl, by omega, (fun k_ hk_ e0_ => by repeat (first | exact hf0 k_ hk_ e0_ | refine uN (by first | assumption | omega) ?_ | fail)), by first | ((repeat (first | exact uE | assumption | refine uN (by omega) ?_ | fail)); done) | exact tl_eq (by repeat (first | exact uE | assumption | refine uN (by omega) ?_ | fail)) (by first | rfl | (simp [bytesV, beB_len]; done) | (simp [bytesV, beB_len]; omega) | omega) | (rw [← hq0_]; (repeat (first | exact uE | assumption | refine uN (by omega) ?_ | fail)); done), by first | ((repeat (first | exact uE | assumption | refine uN (by omega) ?_ | fail)); done) | exact tl_eq (by repeat (first | exact uE | assumption | refine uN (by omega) ?_ | fail)) (by first | rfl | (simp [bytesV, beB_len]; done) | (simp [bytesV, beB_len]; omega) | omega) | (rw [← hq0_]; (repeat (first | exact uE | assumption | refine uN (by omega) ?_ | fail)); done), (by omega), hF0_1.mid hcs_ hj_ (by omega), ⟨by omega, by omega⟩⟩
            · omega
            · (repeat' (first | exact trivial | refine ⟨⟨_, rfl, ?_⟩, ?_⟩ | fail)); all_goals (repeat' (first | exact VLe.refl _ | exact VLe.own_sl _ _ _ | exact VLe.fl_sl _ _ | exact VLe.nil_sl _ | exact VLe.nil_fl _ | exact VLes.refl _ | exact .nil | refine VLe.tup ?_ | refine VLe.agg ?_ | refine .cons ?_ ?_ | (rw [Int.natCast_add]; exact VLe.refl _) | exact vle_int (by omega) | exact vle_bool (by first | rfl | assumption | (simp_all; done) | fail) | (rw [← hq0_]; exact VLe.refl _) | (rw [hq0_]; exact VLe.refl _) | fail))
          · skip
            have hla_ : r + 1 = wE (at' es (j : Int)) := (by have q_ := h3; rw [flS_2] at q_; show r + 1 = nS (bE (at' es (j : Int))); simpa using q_)
            have hrw_ := hrw_ hla_
            refine runs_skip ?_
            refine runs_seq ?_
            refine runs_region ?_
            refine rl0 (gn rfl) rfl rfl (step_mv rfl rfl) trivial ?_
            refine rl0 (gn rfl) rfl rfl (step_callc rfl Try.func39 rfl rfl rfl (ek_get (e := (at' es (j : Int))) (hes.ent hj_).1 (hes.ent hj_).2) (by repeat (first | exact .nil | refine .cons ?_ ?_ | exact VLe.refl _ | (rw [hTi_]; exact VLe.refl _) | (rw [hrw_]; exact VLe.own_sl _ _ _) | exact vle_int (by omega) | exact VLe.own_sl _ _ _ | exact VLe.fl_sl _ _ | exact VLe.nil_sl _ | exact VLe.nil_fl _ | refine VLe.agg ?_))) trivial ?_
            refine rl0 (gn rfl) rfl rfl (step_mv rfl rfl) trivial ?_
            refine rl0 (gn rfl) rfl rfl (step_extract rfl (ev_mk rfl) rfl) trivial ?_
            refine rl0 (gn rfl) rfl rfl (step_extract rfl (ev_mk rfl) rfl) trivial ?_
            refine rl1 (gn rfl) rfl rfl (step_allocc (k := m0 + 2) (zs := [.int .u64 0, .int .i64 0, .int .u64 0, .int .u64 0, .int .u64 0, .int .u64 0, .int .u64 0, .int .u32 0, .int .u32 0, .string ByteArray.empty, .bool false, .slice none 0 0, .slice none 0 0]) (cs := [.sc (.int .u64 0), .sc (.int .i64 0), .sc (.int .u64 0), .sc (.int .u64 0), .sc (.int .u64 0), .sc (.int .u64 0), .sc (.int .u64 0), .sc (.int .u32 0), .sc (.int .u32 0), .sc (.string ByteArray.empty), .sc (.bool false), .sc (.slice none 0 0), .sc (.slice none 0 0)]) rfl F.zero40 (by first | rfl | simp) (by first | rfl | decide | simp) (by first | rfl | simp)) ⟨by repeat (first | exact uE | refine uN (by omega) ?_ | assumption | exact hd _ (by omega) | exact hd0 _ (by omega) | fail), trivial⟩ (by omega) ?_
            refine' rls (gn rfl) rfl (step_storeA rfl rfl rfl rfl F.agg40 ?hm ?hl) ⟨?hb, trivial⟩ ?hk ?_
            case hb => repeat (first | exact uE | refine uN (by omega) ?_ | assumption | exact hd _ (by omega) | exact hd0 _ (by omega) | fail)
            case hm => first | rfl | (simp; done) | (first | (rw [List.length_map]; exact h64i_) | (rw [List.length_map, mkS_len (chk_len _ _)]; omega) | (rw [List.length_map, mkS_len (chk_len _ _)]; done))
            case hl => first | rfl | (simp; done) | (first | (rw [List.length_map]; exact h64i_) | (rw [List.length_map, mkS_len (chk_len _ _)]; omega) | (rw [List.length_map, mkS_len (chk_len _ _)]; done))
            case hk => omega
            refine rl0 (gn rfl) rfl rfl (step_as rfl rfl) trivial ?_
            refine runsL_nil ?_
            refine runs_seq ?_
            refine runs_seq ?_
            refine runs_region ?_
            refine rl0 (gn rfl) rfl rfl (step_mv rfl rfl) trivial ?_
            refine rl_neq (gn rfl) rfl rfl rfl rfl rfl (fun h4 => ?_) (fun h4 => ?_)
            · exact False.elim (by omega)
            refine rl0 (gn rfl) rfl rfl (step_mv rfl rfl) trivial ?_
            refine rl0 (gy rfl rfl rfl rfl rfl rfl) rfl rfl (step_fieldAddr (off := 0) rfl (ev_mk rfl) Try.underlying40 rfl F.sz33 rfl) trivial ?_
            refine' rl0 (gy rfl rfl rfl rfl rfl rfl) rfl rfl (step_load_one rfl (ev_mk rfl) F.one33 ?hv) ⟨?hb, trivial⟩ ?_
            case hb => repeat (first | exact uE | refine uN (by omega) ?_ | assumption | exact hd _ (by omega) | exact hd0 _ (by omega) | fail)
            case hv => rfl
            refine rl0 (gy rfl rfl rfl rfl rfl rfl) rfl rfl (step_mv rfl rfl) trivial ?_
            refine rl0 (gy rfl rfl rfl rfl rfl rfl) rfl rfl (step_add rfl (ev_mk rfl) (ev_mk rfl) (w64 (by omega))) trivial ?_
            refine rl0 (gy rfl rfl rfl rfl rfl rfl) rfl rfl (step_conv_id rfl rfl Try.underlying3 Try.underlying33 (wu64 (by omega))) trivial ?_
            refine rl_neq (gy rfl rfl rfl rfl rfl rfl) rfl rfl rfl rfl rfl (fun h5 => ?_) (fun h5 => ?_)
            · exact False.elim (by omega)
            refine rl0 (gn rfl) rfl rfl (step_pick rfl (ev_mk rfl) (ev_mk rfl)) trivial ?_
            refine runsL_nil ?_
            refine runs_cond false (ev_mk rfl) (fun h_ => nomatch h_) (fun _ => ?_)
            refine runs_skip ?_
            refine runs_seq ?_
            refine runs_region ?_
            refine rl0 (gn rfl) rfl rfl (step_mv rfl rfl) trivial ?_
            refine' rl0 (gn rfl) rfl rfl (step_load_all rfl rfl F.agg40 ?hl) ⟨?hb, trivial⟩ ?_
            case hb => repeat (first | exact uE | refine uN (by omega) ?_ | assumption | exact hd _ (by omega) | exact hd0 _ (by omega) | fail)
            case hl => first | rfl | (simp; done) | (first | (rw [List.length_map]; exact h64i_) | (rw [List.length_map, mkS_len (chk_len _ _)]; omega) | (rw [List.length_map, mkS_len (chk_len _ _)]; done))
            refine rl0 (gn rfl) rfl rfl (step_lit rfl Try.underlying24 F.sz40 F.zero40 (by first | rfl | simp) (by first | rfl | simp | decide) (by decide) rfl rfl (by first | (simp [V.cs, V.stor, oneV]; done) | (simp [V.cs, V.stor, oneV])) rfl) trivial ?_
            refine' rl1 (gn rfl) rfl rfl (step_append_own rfl rfl rfl Try.underlying24 ⟨_, Try.underlying24, fun k_ => by intro h_; cases h_⟩ F.el40 (ev_mk rfl) (ev_mk rfl) (gives_sl (.inr (.inl rfl))) ?hg) ⟨?hb, trivial⟩ (by omega) ?_
            case hb => repeat (first | exact uE | refine uN (by omega) ?_ | assumption | exact hd _ (by omega) | exact hd0 _ (by omega) | fail)
            case hg => (simp; omega)
            refine rl0 (gn rfl) rfl rfl (step_as rfl rfl) trivial ?_
            refine runsL_nil ?_
            refine runs_region ?_
            refine rl0 (gn rfl) rfl rfl (step_mv rfl rfl) trivial ?_
            refine rl0 (gn rfl) rfl rfl (step_add rfl (ev_mk rfl) (ev_mk rfl) (w64 (by omega))) trivial ?_
            refine rl0 (gn rfl) rfl rfl (step_as rfl rfl) trivial ?_
            refine rl0 (gn rfl) rfl rfl (step_as rfl rfl) trivial ?_
            refine runsL_nil ?_
            refine runs_grow (l' := []) (d := 5) (k := m0 + 3) (e := 1) (xs := []) rfl (.inr ⟨rfl, rfl⟩) (by repeat (first | exact uE | refine uN (by omega) ?_ | assumption | exact hd _ (by omega) | exact hd0 _ (by omega) | fail)) (by omega) ?_
            refine runs_region ?_
            refine rl0 (gn rfl) rfl rfl (step_add rfl (ev_mk rfl) (ev_mk rfl) (w64 (by omega))) trivial ?_
            refine rl0 (gn rfl) rfl rfl (step_mv rfl rfl) trivial ?_
            refine runsL_nil ?_
            have hq0_ : (((es.take j).map enC) ++ [[V.sc (.int .u64 (at' es (j : Int)).lsn), V.sc (.int .i64 (at' es (j : Int)).kind), V.sc (.int .u64 (at' es (j : Int)).txn), V.sc (.int .u64 (at' es (j : Int)).prev), V.sc (.int .u64 (at' es (j : Int)).next), V.sc (.int .u64 (at' es (j : Int)).r.id), V.sc (.int .u64 (at' es (j : Int)).r.key), V.sc (.int .u32 (at' es (j : Int)).r.x), V.sc (.int .u32 (at' es (j : Int)).r.y), V.sc (.string (at' es (j : Int)).r.val), V.sc (.bool (at' es (j : Int)).r.gh), V.sl 225 ((at' es (j : Int)).pages.map imR), V.sl 1 ((at' es (j : Int)).act.map acR)]]) = ((es.take (j + 1)).map enC) := by exact take_enS hj_
            have hq1_ : [] = ((bytesV ((bE (at' es ((j + 1) : Int))).take (54 * 0)))) := by rfl
            have hq2_ : ((i : Int) + 1) = (off es (j + 1) : Int) := by (show ((i : Nat) : Int) + 1 = ((off es j + wE (at' es (j : Int)) : Nat) : Int); omega)
            refine ⟨_, _, ?_, sle ?_ (Nat.le_refl _), (i + 1), (j + 1), 0, (m0 + 3), _, _, rfl, rfl, by omega, (fun k_ hk_ e0_ => by repeat (first | exact hf0 k_ hk_ e0_ | refine uN (by first | assumption | omega) ?_ | fail)), by first | ((repeat (first | exact uE | assumption | refine uN (by omega) ?_ | fail)); done) | exact tl_eq (by repeat (first | exact uE | assumption | refine uN (by omega) ?_ | fail)) (by first | rfl | (simp [bytesV, beB_len]; done) | (simp [bytesV, beB_len]; omega) | omega) | (rw [← hq0_]; (repeat (first | exact uE | assumption | refine uN (by omega) ?_ | fail)); done) | (rw [← hq1_]; (repeat (first | exact uE | assumption | refine uN (by omega) ?_ | fail)); done) | (rw [← hq2_]; (repeat (first | exact uE | assumption | refine uN (by omega) ?_ | fail)); done) | (rw [← hq0_, ← hq1_, ← hq2_]; (repeat (first | exact uE | assumption | refine uN (by omega) ?_ | fail)); done), by first | ((repeat (first | exact uE | assumption | refine uN (by omega) ?_ | fail)); done) | exact tl_eq (by repeat (first | exact uE | assumption | refine uN (by omega) ?_ | fail)) (by first | rfl | (simp [bytesV, beB_len]; done) | (simp [bytesV, beB_len]; omega) | omega) | (rw [← hq0_]; (repeat (first | exact uE | assumption | refine uN (by omega) ?_ | fail)); done) | (rw [← hq1_]; (repeat (first | exact uE | assumption | refine uN (by omega) ?_ | fail)); done) | (rw [← hq2_]; (repeat (first | exact uE | assumption | refine uN (by omega) ?_ | fail)); done) | (rw [← hq0_, ← hq1_, ← hq2_]; (repeat (first | exact uE | assumption | refine uN (by omega) ?_ | fail)); done), (by omega), hF0_1.last hes hcs_ hj_ (by omega), ⟨by omega, by omega⟩⟩
            · omega
            · (repeat' (first | exact trivial | refine ⟨⟨_, rfl, ?_⟩, ?_⟩ | fail)); all_goals (repeat' (first | exact VLe.refl _ | exact VLe.own_sl _ _ _ | exact VLe.fl_sl _ _ | exact VLe.nil_sl _ | exact VLe.nil_fl _ | exact VLes.refl _ | exact .nil | refine VLe.tup ?_ | refine VLe.agg ?_ | refine .cons ?_ ?_ | (rw [Int.natCast_add]; exact VLe.refl _) | exact vle_int (by omega) | exact vle_bool (by first | rfl | assumption | (simp_all; done) | fail) | (rw [← hq0_]; exact VLe.refl _) | (rw [hq0_]; exact VLe.refl _) | (rw [← hq1_]; exact VLe.refl _) | (rw [hq1_]; exact VLe.refl _) | (rw [← hq2_]; exact VLe.refl _) | (rw [hq2_]; exact VLe.refl _) | fail))
        · skip
          refine rl0 (gy rfl rfl rfl rfl rfl rfl) rfl rfl (step_neqb rfl (ev_mk rfl) (ev_mk rfl) Try.underlying4) trivial ?_
          refine rl_know (d := 37) (c := false) rfl (by rw [flS_1, decide_eq_false (show ¬ r = 0 by omega)]; rfl) ?_
          refine rl0 (gn rfl) rfl rfl (step_pick rfl (ev_mk rfl) (ev_mk rfl)) trivial ?_
          refine runsL_nil ?_
          refine runs_cond false (ev_mk rfl) (fun h_ => nomatch h_) (fun _ => ?_)
          refine runs_skip ?_
          refine runs_seq ?_
          refine runs_region ?_
          refine rl0 (gn rfl) rfl rfl (step_mv rfl rfl) trivial ?_
          refine rl0 (gn rfl) rfl rfl (step_mv rfl rfl) trivial ?_
          refine' rl1 (gn rfl) rfl rfl (step_append_own rfl rfl rfl Try.underlying22 ⟨_, Try.underlying22, fun k_ => by intro h_; cases h_⟩ F.el5 (ev_mk rfl) (ev_mk rfl) (gives_msl (ys := bytesV (chk (bE (at' es (j : Int))) r)) ?gl ?gy) ?hg) ⟨?hb, ?gb, trivial⟩ (by omega) ?_
          case hb => repeat (first | exact uE | refine uN (by omega) ?_ | assumption | exact hd _ (by omega) | exact hd0 _ (by omega) | fail)
          case gb => repeat (first | exact uE | refine uN (by omega) ?_ | assumption | exact hd _ (by omega) | exact hd0 _ (by omega) | fail)
          case gl => (rw [List.length_map, mkS_len (chk_len _ _)]; omega)
          case gy => (rw [chk_at (chk_len _ _)]; exact rows1 _)
          case hg => (simp [bytesV]; omega)
          refine rl0 (gn rfl) rfl rfl (step_as rfl rfl) trivial ?_
          refine runsL_nil ?_
          refine runs_seq ?_
          refine runs_seq ?_
          refine runs_region ?_
          refine rl0 (gn rfl) rfl rfl (step_mv rfl rfl) trivial ?_
          refine rl0 (gn rfl) rfl rfl (step_unOp rfl (ev_mk rfl) (fun _ => rfl)) trivial ?_
          refine runsL_nil ?_
          refine runs_cond _ (ev_mk rfl) (fun h3 => ?_) (fun h3 => ?_)
          · skip
            have hla_ : ¬ (r + 1 = wE (at' es (j : Int))) := (by have q_ := h3; rw [flS_2] at q_; show ¬ (r + 1 = nS (bE (at' es (j : Int)))); simpa using q_)
            refine runs_exit ?_
            refine runs_region ?_
            refine rl0 (gn rfl) rfl rfl (step_add rfl (ev_mk rfl) (ev_mk rfl) (w64 (by omega))) trivial ?_
            refine rl0 (gn rfl) rfl rfl (step_mv rfl rfl) trivial ?_
            refine runsL_nil ?_
            have hq0_ : ((bytesV ((bE (at' es (j : Int))).take (54 * r))) ++ (bytesV (chk (bE (at' es (j : Int))) r))) = ((bytesV ((bE (at' es (j : Int))).take (54 * (r + 1))))) := by exact chk_take
            refine ⟨_, _, ?_, sle ?_ (Nat.le_refl _), (i + 1), j, (r + 1), kb, _, _, rfl, rfl, by omega, (fun k_ hk_ e0_ => by repeat (first | exact hf0 k_ hk_ e0_ | refine uN (by first | assumption | omega) ?_ | fail)), by first | ((repeat (first | exact uE | assumption | refine uN (by omega) ?_ | fail)); done) | exact tl_eq (by repeat (first | exact uE | assumption | refine uN (by omega) ?_ | fail)) (by first | rfl | (simp [bytesV, beB_len]; done) | (simp [bytesV, beB_len]; omega) | omega) | (rw [← hq0_]; (repeat (first | exact uE | assumption | refine uN (by omega) ?_ | fail)); done), by first | ((repeat (first | exact uE | assumption | refine uN (by omega) ?_ | fail)); done) | exact tl_eq (by repeat (first | exact uE | assumption | refine uN (by omega) ?_ | fail)) (by first | rfl | (simp [bytesV, beB_len]; done) | (simp [bytesV, beB_len]; omega) | omega) | (rw [← hq0_]; (repeat (first | exact uE | assumption | refine uN (by omega) ?_ | fail)); done), (by omega), hF0_1.mid hcs_ hj_ (by omega), ⟨by omega, by omega⟩⟩
            · omega
            · (repeat' (first | exact trivial | refine ⟨⟨_, rfl, ?_⟩, ?_⟩ | fail)); all_goals (repeat' (first | exact VLe.refl _ | exact VLe.own_sl _ _ _ | exact VLe.fl_sl _ _ | exact VLe.nil_sl _ | exact VLe.nil_fl _ | exact VLes.refl _ | exact .nil | refine VLe.tup ?_ | refine VLe.agg ?_ | refine .cons ?_ ?_ | (rw [Int.natCast_add]; exact VLe.refl _) | exact vle_int (by omega) | exact vle_bool (by first | rfl | assumption | (simp_all; done) | fail) | (rw [← hq0_]; exact VLe.refl _) | (rw [hq0_]; exact VLe.refl _) | fail))
          · skip
            have hla_ : r + 1 = wE (at' es (j : Int)) := (by have q_ := h3; rw [flS_2] at q_; show r + 1 = nS (bE (at' es (j : Int))); simpa using q_)
            have hrw_ := hrw_ hla_
            refine runs_skip ?_
            refine runs_seq ?_
            refine runs_region ?_
            refine rl0 (gn rfl) rfl rfl (step_mv rfl rfl) trivial ?_
            refine rl0 (gn rfl) rfl rfl (step_callc rfl Try.func39 rfl rfl rfl (ek_get (e := (at' es (j : Int))) (hes.ent hj_).1 (hes.ent hj_).2) (by repeat (first | exact .nil | refine .cons ?_ ?_ | exact VLe.refl _ | (rw [hTi_]; exact VLe.refl _) | (rw [hrw_]; exact VLe.own_sl _ _ _) | exact vle_int (by omega) | exact VLe.own_sl _ _ _ | exact VLe.fl_sl _ _ | exact VLe.nil_sl _ | exact VLe.nil_fl _ | refine VLe.agg ?_))) trivial ?_
            refine rl0 (gn rfl) rfl rfl (step_mv rfl rfl) trivial ?_
            refine rl0 (gn rfl) rfl rfl (step_extract rfl (ev_mk rfl) rfl) trivial ?_
            refine rl0 (gn rfl) rfl rfl (step_extract rfl (ev_mk rfl) rfl) trivial ?_
            refine rl1 (gn rfl) rfl rfl (step_allocc (k := m0 + 2) (zs := [.int .u64 0, .int .i64 0, .int .u64 0, .int .u64 0, .int .u64 0, .int .u64 0, .int .u64 0, .int .u32 0, .int .u32 0, .string ByteArray.empty, .bool false, .slice none 0 0, .slice none 0 0]) (cs := [.sc (.int .u64 0), .sc (.int .i64 0), .sc (.int .u64 0), .sc (.int .u64 0), .sc (.int .u64 0), .sc (.int .u64 0), .sc (.int .u64 0), .sc (.int .u32 0), .sc (.int .u32 0), .sc (.string ByteArray.empty), .sc (.bool false), .sc (.slice none 0 0), .sc (.slice none 0 0)]) rfl F.zero40 (by first | rfl | simp) (by first | rfl | decide | simp) (by first | rfl | simp)) ⟨by repeat (first | exact uE | refine uN (by omega) ?_ | assumption | exact hd _ (by omega) | exact hd0 _ (by omega) | fail), trivial⟩ (by omega) ?_
            refine' rls (gn rfl) rfl (step_storeA rfl rfl rfl rfl F.agg40 ?hm ?hl) ⟨?hb, trivial⟩ ?hk ?_
            case hb => repeat (first | exact uE | refine uN (by omega) ?_ | assumption | exact hd _ (by omega) | exact hd0 _ (by omega) | fail)
            case hm => first | rfl | (simp; done) | (first | (rw [List.length_map]; exact h64i_) | (rw [List.length_map, mkS_len (chk_len _ _)]; omega) | (rw [List.length_map, mkS_len (chk_len _ _)]; done))
            case hl => first | rfl | (simp; done) | (first | (rw [List.length_map]; exact h64i_) | (rw [List.length_map, mkS_len (chk_len _ _)]; omega) | (rw [List.length_map, mkS_len (chk_len _ _)]; done))
            case hk => omega
            refine rl0 (gn rfl) rfl rfl (step_as rfl rfl) trivial ?_
            refine runsL_nil ?_
            refine runs_seq ?_
            refine runs_seq ?_
            refine runs_region ?_
            refine rl0 (gn rfl) rfl rfl (step_mv rfl rfl) trivial ?_
            refine rl_neq (gn rfl) rfl rfl rfl rfl rfl (fun h4 => ?_) (fun h4 => ?_)
            · exact False.elim (by omega)
            refine rl0 (gn rfl) rfl rfl (step_mv rfl rfl) trivial ?_
            refine rl0 (gy rfl rfl rfl rfl rfl rfl) rfl rfl (step_fieldAddr (off := 0) rfl (ev_mk rfl) Try.underlying40 rfl F.sz33 rfl) trivial ?_
            refine' rl0 (gy rfl rfl rfl rfl rfl rfl) rfl rfl (step_load_one rfl (ev_mk rfl) F.one33 ?hv) ⟨?hb, trivial⟩ ?_
            case hb => repeat (first | exact uE | refine uN (by omega) ?_ | assumption | exact hd _ (by omega) | exact hd0 _ (by omega) | fail)
            case hv => rfl
            refine rl0 (gy rfl rfl rfl rfl rfl rfl) rfl rfl (step_mv rfl rfl) trivial ?_
            refine rl0 (gy rfl rfl rfl rfl rfl rfl) rfl rfl (step_add rfl (ev_mk rfl) (ev_mk rfl) (w64 (by omega))) trivial ?_
            refine rl0 (gy rfl rfl rfl rfl rfl rfl) rfl rfl (step_conv_id rfl rfl Try.underlying3 Try.underlying33 (wu64 (by omega))) trivial ?_
            refine rl_neq (gy rfl rfl rfl rfl rfl rfl) rfl rfl rfl rfl rfl (fun h5 => ?_) (fun h5 => ?_)
            · exact False.elim (by omega)
            refine rl0 (gn rfl) rfl rfl (step_pick rfl (ev_mk rfl) (ev_mk rfl)) trivial ?_
            refine runsL_nil ?_
            refine runs_cond false (ev_mk rfl) (fun h_ => nomatch h_) (fun _ => ?_)
            refine runs_skip ?_
            refine runs_seq ?_
            refine runs_region ?_
            refine rl0 (gn rfl) rfl rfl (step_mv rfl rfl) trivial ?_
            refine' rl0 (gn rfl) rfl rfl (step_load_all rfl rfl F.agg40 ?hl) ⟨?hb, trivial⟩ ?_
            case hb => repeat (first | exact uE | refine uN (by omega) ?_ | assumption | exact hd _ (by omega) | exact hd0 _ (by omega) | fail)
            case hl => first | rfl | (simp; done) | (first | (rw [List.length_map]; exact h64i_) | (rw [List.length_map, mkS_len (chk_len _ _)]; omega) | (rw [List.length_map, mkS_len (chk_len _ _)]; done))
            refine rl0 (gn rfl) rfl rfl (step_lit rfl Try.underlying24 F.sz40 F.zero40 (by first | rfl | simp) (by first | rfl | simp | decide) (by decide) rfl rfl (by first | (simp [V.cs, V.stor, oneV]; done) | (simp [V.cs, V.stor, oneV])) rfl) trivial ?_
            refine' rl1 (gn rfl) rfl rfl (step_append_own rfl rfl rfl Try.underlying24 ⟨_, Try.underlying24, fun k_ => by intro h_; cases h_⟩ F.el40 (ev_mk rfl) (ev_mk rfl) (gives_sl (.inr (.inl rfl))) ?hg) ⟨?hb, trivial⟩ (by omega) ?_
            case hb => repeat (first | exact uE | refine uN (by omega) ?_ | assumption | exact hd _ (by omega) | exact hd0 _ (by omega) | fail)
            case hg => (simp; omega)
            refine rl0 (gn rfl) rfl rfl (step_as rfl rfl) trivial ?_
            refine runsL_nil ?_
            refine runs_region ?_
            refine rl0 (gn rfl) rfl rfl (step_mv rfl rfl) trivial ?_
            refine rl0 (gn rfl) rfl rfl (step_add rfl (ev_mk rfl) (ev_mk rfl) (w64 (by omega))) trivial ?_
            refine rl0 (gn rfl) rfl rfl (step_as rfl rfl) trivial ?_
            refine rl0 (gn rfl) rfl rfl (step_as rfl rfl) trivial ?_
            refine runsL_nil ?_
            refine runs_grow (l' := []) (d := 5) (k := m0 + 3) (e := 1) (xs := []) rfl (.inr ⟨rfl, rfl⟩) (by repeat (first | exact uE | refine uN (by omega) ?_ | assumption | exact hd _ (by omega) | exact hd0 _ (by omega) | fail)) (by omega) ?_
            refine runs_region ?_
            refine rl0 (gn rfl) rfl rfl (step_add rfl (ev_mk rfl) (ev_mk rfl) (w64 (by omega))) trivial ?_
            refine rl0 (gn rfl) rfl rfl (step_mv rfl rfl) trivial ?_
            refine runsL_nil ?_
            have hq0_ : (((es.take j).map enC) ++ [[V.sc (.int .u64 (at' es (j : Int)).lsn), V.sc (.int .i64 (at' es (j : Int)).kind), V.sc (.int .u64 (at' es (j : Int)).txn), V.sc (.int .u64 (at' es (j : Int)).prev), V.sc (.int .u64 (at' es (j : Int)).next), V.sc (.int .u64 (at' es (j : Int)).r.id), V.sc (.int .u64 (at' es (j : Int)).r.key), V.sc (.int .u32 (at' es (j : Int)).r.x), V.sc (.int .u32 (at' es (j : Int)).r.y), V.sc (.string (at' es (j : Int)).r.val), V.sc (.bool (at' es (j : Int)).r.gh), V.sl 225 ((at' es (j : Int)).pages.map imR), V.sl 1 ((at' es (j : Int)).act.map acR)]]) = ((es.take (j + 1)).map enC) := by exact take_enS hj_
            have hq1_ : [] = ((bytesV ((bE (at' es ((j + 1) : Int))).take (54 * 0)))) := by rfl
            have hq2_ : ((i : Int) + 1) = (off es (j + 1) : Int) := by (show ((i : Nat) : Int) + 1 = ((off es j + wE (at' es (j : Int)) : Nat) : Int); omega)
            refine ⟨_, _, ?_, sle ?_ (Nat.le_refl _), (i + 1), (j + 1), 0, (m0 + 3), _, _, rfl, rfl, by omega, (fun k_ hk_ e0_ => by repeat (first | exact hf0 k_ hk_ e0_ | refine uN (by first | assumption | omega) ?_ | fail)), by first | ((repeat (first | exact uE | assumption | refine uN (by omega) ?_ | fail)); done) | exact tl_eq (by repeat (first | exact uE | assumption | refine uN (by omega) ?_ | fail)) (by first | rfl | (simp [bytesV, beB_len]; done) | (simp [bytesV, beB_len]; omega) | omega) | (rw [← hq0_]; (repeat (first | exact uE | assumption | refine uN (by omega) ?_ | fail)); done) | (rw [← hq1_]; (repeat (first | exact uE | assumption | refine uN (by omega) ?_ | fail)); done) | (rw [← hq2_]; (repeat (first | exact uE | assumption | refine uN (by omega) ?_ | fail)); done) | (rw [← hq0_, ← hq1_, ← hq2_]; (repeat (first | exact uE | assumption | refine uN (by omega) ?_ | fail)); done), by first | ((repeat (first | exact uE | assumption | refine uN (by omega) ?_ | fail)); done) | exact tl_eq (by repeat (first | exact uE | assumption | refine uN (by omega) ?_ | fail)) (by first | rfl | (simp [bytesV, beB_len]; done) | (simp [bytesV, beB_len]; omega) | omega) | (rw [← hq0_]; (repeat (first | exact uE | assumption | refine uN (by omega) ?_ | fail)); done) | (rw [← hq1_]; (repeat (first | exact uE | assumption | refine uN (by omega) ?_ | fail)); done) | (rw [← hq2_]; (repeat (first | exact uE | assumption | refine uN (by omega) ?_ | fail)); done) | (rw [← hq0_, ← hq1_, ← hq2_]; (repeat (first | exact uE | assumption | refine uN (by omega) ?_ | fail)); done), (by omega), hF0_1.last hes hcs_ hj_ (by omega), ⟨by omega, by omega⟩⟩
            · omega
            · (repeat' (first | exact trivial | refine ⟨⟨_, rfl, ?_⟩, ?_⟩ | fail)); all_goals (repeat' (first | exact VLe.refl _ | exact VLe.own_sl _ _ _ | exact VLe.fl_sl _ _ | exact VLe.nil_sl _ | exact VLe.nil_fl _ | exact VLes.refl _ | exact .nil | refine VLe.tup ?_ | refine VLe.agg ?_ | refine .cons ?_ ?_ | (rw [Int.natCast_add]; exact VLe.refl _) | exact vle_int (by omega) | exact vle_bool (by first | rfl | assumption | (simp_all; done) | fail) | (rw [← hq0_]; exact VLe.refl _) | (rw [hq0_]; exact VLe.refl _) | (rw [← hq1_]; exact VLe.refl _) | (rw [hq1_]; exact VLe.refl _) | (rw [← hq2_]; exact VLe.refl _) | (rw [hq2_]; exact VLe.refl _) | fail))
      · skip
        have hTi_ : (at' T (i : Int)) = List.replicate 64 0 := hT.no i (by omega) hcs_
        have h64i_ : (at' T (i : Int)).length = 64 := h64 _ (at_mem (xs := T) (i := (i : Int)) (by omega) (by omega))
        refine rl0 (gn rfl) rfl rfl (step_mv rfl rfl) trivial ?_
        refine' rl0 (gn rfl) rfl rfl (step_index rfl (ev_mk rfl) (.inl rfl) (ev_mk rfl) Try.underlying27 F.sz47 (by omega) ?hr) trivial ?_
        case hr => exact map_at _ _ _ (by omega) (by omega)
        refine rl0 (gn rfl) rfl rfl (step_load_ro_all rfl rfl F.agg47 (by first | rfl | (simp; done) | (first | (rw [List.length_map]; exact h64i_) | (rw [List.length_map, mkS_len (chk_len _ _)]; omega) | (rw [List.length_map, mkS_len (chk_len _ _)]; done)))) trivial ?_
        refine rl1 (gn rfl) rfl rfl (step_allocc (k := m0 + 0) (zs := (List.replicate 64 (.int .u8 0))) (cs := List.replicate 64 (.sc (.int .u8 0))) rfl F.zero47 (by first | rfl | simp) (by first | rfl | decide | simp) (by first | rfl | simp)) ⟨by repeat (first | exact uE | refine uN (by omega) ?_ | assumption | exact hd _ (by omega) | exact hd0 _ (by omega) | fail), trivial⟩ (by omega) ?_
        refine rl0 (gn rfl) rfl rfl (step_as rfl rfl) trivial ?_
        refine' rls (gn rfl) rfl (step_storeA rfl rfl rfl rfl F.agg47 ?hm ?hl) ⟨?hb, trivial⟩ ?hk ?_
        case hb => repeat (first | exact uE | refine uN (by omega) ?_ | assumption | exact hd _ (by omega) | exact hd0 _ (by omega) | fail)
        case hm => first | rfl | (simp; done) | (first | (rw [List.length_map]; exact h64i_) | (rw [List.length_map, mkS_len (chk_len _ _)]; omega) | (rw [List.length_map, mkS_len (chk_len _ _)]; done))
        case hl => first | rfl | (simp; done) | (first | (rw [List.length_map]; exact h64i_) | (rw [List.length_map, mkS_len (chk_len _ _)]; omega) | (rw [List.length_map, mkS_len (chk_len _ _)]; done))
        case hk => omega
        refine runsL_nil ?_
        refine runs_seq ?_
        refine runs_region ?_
        refine' rl0 (gn rfl) rfl rfl (step_load_all rfl rfl F.agg47 ?hl) ⟨?hb, trivial⟩ ?_
        case hb => repeat (first | exact uE | refine uN (by omega) ?_ | assumption | exact hd _ (by omega) | exact hd0 _ (by omega) | fail)
        case hl => first | rfl | (simp; done) | (first | (rw [List.length_map]; exact h64i_) | (rw [List.length_map, mkS_len (chk_len _ _)]; omega) | (rw [List.length_map, mkS_len (chk_len _ _)]; done))
        refine rl0 (gn rfl) rfl rfl (step_mv rfl rfl) trivial ?_
        refine rl1 (gn rfl) rfl rfl (step_callc rfl Try.func38 rfl rfl rfl (part_z i (m0 + 1) (by omega)) (by repeat (first | exact .nil | refine .cons ?_ ?_ | exact VLe.refl _ | (rw [hTi_]; exact VLe.refl _) | (rw [hrw_]; exact VLe.own_sl _ _ _) | exact vle_int (by omega) | exact VLe.own_sl _ _ _ | exact VLe.fl_sl _ _ | exact VLe.nil_sl _ | exact VLe.nil_fl _ | refine VLe.agg ?_))) ⟨by repeat (first | exact uE | refine uN (by omega) ?_ | assumption | exact hd _ (by omega) | exact hd0 _ (by omega) | fail), trivial⟩ (by omega) ?_
        refine rl0 (gn rfl) rfl rfl (step_mv rfl rfl) trivial ?_
        refine rl0 (gn rfl) rfl rfl (step_extract rfl (ev_mk rfl) rfl) trivial ?_
        refine rl0 (gn rfl) rfl rfl (step_extract rfl (ev_mk rfl) rfl) trivial ?_
        refine rl0 (gn rfl) rfl rfl (step_extract rfl (ev_mk rfl) rfl) trivial ?_
        refine rl0 (gn rfl) rfl rfl (step_extract rfl (ev_mk rfl) rfl) trivial ?_
        refine rl0 (gn rfl) rfl rfl (step_as rfl rfl) trivial ?_
        refine rl0 (gn rfl) rfl rfl (step_as rfl rfl) trivial ?_
        refine rl0 (gn rfl) rfl rfl (step_as rfl rfl) trivial ?_
        refine rl0 (gn rfl) rfl rfl (step_as rfl rfl) trivial ?_
        refine runsL_nil ?_
        refine runs_seq ?_
        refine runs_seq ?_
        refine runs_region ?_
        refine rl0 (gn rfl) rfl rfl (step_mv rfl rfl) trivial ?_
        refine rl0 (gn rfl) rfl rfl (step_unOp (c := .bool true) rfl (ev_mk rfl) (fun _ => rfl)) trivial ?_
        refine rl0 (gn rfl) rfl rfl (step_mv rfl rfl) trivial ?_
        refine rlk rfl rfl rfl rfl rfl (ngb rfl rfl) rfl rfl ?_
        refine rlk rfl rfl rfl rfl rfl (ngb rfl rfl) rfl rfl ?_
        refine rlk rfl rfl rfl rfl rfl (ngb rfl rfl) rfl rfl ?_
        refine rlk rfl rfl rfl rfl rfl (ngb rfl rfl) rfl rfl ?_
        refine rlk rfl rfl rfl rfl rfl (ngb rfl rfl) rfl rfl ?_
        refine rl0 (gn rfl) rfl rfl (step_pick rfl (ev_mk rfl) (ev_mk rfl)) trivial ?_
        refine runsL_nil ?_
        refine runs_cond true (ev_mk rfl) (fun _ => ?_) (fun h_ => nomatch h_)
        refine runs_exit ?_
        refine runs_seq ?_
        refine runs_region ?_
        refine rl0 (gn rfl) rfl rfl (step_mv rfl rfl) trivial ?_
        refine rl0 (gn rfl) rfl rfl (step_mv rfl rfl) trivial ?_
        refine rl0 (gn rfl) rfl rfl (step_as rfl rfl) trivial ?_
        refine rl0 (gn rfl) rfl rfl (step_as rfl rfl) trivial ?_
        refine runsL_nil ?_
        refine runs_ret ?_
        have hst_ : whJ es ok es.length = j := (by first | exact hF0_1.stop hcs_ | exact hF0_1.stop (hk _ (by omega)))
        rw [hst_]
        refine ⟨by first | exact .inr rfl | exact .inl rfl, fin_mkg (rest rfl (rest rfl res0)) ?_ ?_ ?_ ?_ ?_⟩
        · (repeat' (first | exact VLe.refl _ | exact VLe.own_sl _ _ _ | exact VLe.fl_sl _ _ | exact VLe.nil_sl _ | exact VLe.nil_fl _ | exact VLes.refl _ | exact .nil | refine VLe.tup ?_ | refine VLe.agg ?_ | refine .cons ?_ ?_ | (rw [Int.natCast_add]; exact VLe.refl _) | exact vle_int (by omega) | exact vle_bool (by first | rfl | assumption | (simp_all; done) | fail) | fail))
        · repeat (first | exact trivial | assumption | omega | (refine bdR_map (fun _ => ?_)) | (refine bdL_map (fun _ => ?_)) | refine ⟨?_, ?_⟩ | fail)
        · intro k_ hk_; simp only [upds]; by_cases e_ : k_ = ka; (focus subst e_; refine bl_eq ?_; first | (refine' blec ?hb ?hl; (case hb => repeat (first | exact uE | assumption | refine uN (by omega) ?_ | fail)); (case hl => first | exact VLes.refl _ | ((repeat' (first | exact VLe.refl _ | exact VLe.own_sl _ _ _ | exact VLe.fl_sl _ _ | exact VLe.nil_sl _ | exact VLe.nil_fl _ | exact VLes.refl _ | exact .nil | refine VLe.tup ?_ | refine VLe.agg ?_ | refine .cons ?_ ?_ | (rw [Int.natCast_add]; exact VLe.refl _) | exact vle_int (by omega) | exact vle_bool (by first | rfl | assumption | (simp_all; done) | fail) | fail)); done))) | (refine ble ?_; (repeat (first | exact uE | assumption | refine uN (by omega) ?_ | fail)); done) | exact ble (tl_eq (by repeat (first | exact uE | assumption | refine uN (by omega) ?_ | fail)) (by first | rfl | (simp [bytesV, beB_len]; done) | (simp [bytesV, beB_len]; omega) | omega))); refine bl_ne e_ ?_; exact ble (by repeat (first | exact rfl | refine uN (by omega) ?_ | assumption | exact hf0 _ (by omega) (by first | assumption | omega) | fail))
        · intro p hp cs hcs; simp only [List.mem_cons, List.not_mem_nil, or_false] at hp; (first | (rcases hp with rfl)) <;> (first | (cases hcs; done) | (cases hcs; repeat (first | exact trivial | assumption | omega | (refine bdR_map (fun _ => ?_)) | (refine bdL_map (fun _ => ?_)) | refine ⟨?_, ?_⟩ | fail)))
        · repeat (first | exact trivial | assumption | omega | (refine bdR_map (fun _ => ?_)) | (refine bdL_map (fun _ => ?_)) | refine ⟨?_, ?_⟩ | fail)
    · skip
      refine runsL_nil ?_
      refine runs_seq ?_
      refine runs_cond false (ev_mk rfl) (fun h_ => nomatch h_) (fun _ => ?_)
      refine runs_exit ?_
      refine runs_seq ?_
      refine runs_region ?_
      refine rl0 (gn rfl) rfl rfl (step_mv rfl rfl) trivial ?_
      refine rl0 (gn rfl) rfl rfl (step_mv rfl rfl) trivial ?_
      refine rl0 (gn rfl) rfl rfl (step_as rfl rfl) trivial ?_
      refine rl0 (gn rfl) rfl rfl (step_as rfl rfl) trivial ?_
      refine runsL_nil ?_
      refine runs_ret ?_
      have hst_ : whJ es ok es.length = j := (by first | exact hF0_1.stop hcs_ | exact hF0_1.stop (hk _ (by omega)))
      rw [hst_]
      refine ⟨by first | exact .inr rfl | exact .inl rfl, fin_mkg (rest rfl (rest rfl res0)) ?_ ?_ ?_ ?_ ?_⟩
      · (repeat' (first | exact VLe.refl _ | exact VLe.own_sl _ _ _ | exact VLe.fl_sl _ _ | exact VLe.nil_sl _ | exact VLe.nil_fl _ | exact VLes.refl _ | exact .nil | refine VLe.tup ?_ | refine VLe.agg ?_ | refine .cons ?_ ?_ | (rw [Int.natCast_add]; exact VLe.refl _) | exact vle_int (by omega) | exact vle_bool (by first | rfl | assumption | (simp_all; done) | fail) | fail))
      · repeat (first | exact trivial | assumption | omega | (refine bdR_map (fun _ => ?_)) | (refine bdL_map (fun _ => ?_)) | refine ⟨?_, ?_⟩ | fail)
      · intro k_ hk_; simp only [upds]; by_cases e_ : k_ = ka; (focus subst e_; refine bl_eq ?_; first | (refine' blec ?hb ?hl; (case hb => repeat (first | exact uE | assumption | refine uN (by omega) ?_ | fail)); (case hl => first | exact VLes.refl _ | ((repeat' (first | exact VLe.refl _ | exact VLe.own_sl _ _ _ | exact VLe.fl_sl _ _ | exact VLe.nil_sl _ | exact VLe.nil_fl _ | exact VLes.refl _ | exact .nil | refine VLe.tup ?_ | refine VLe.agg ?_ | refine .cons ?_ ?_ | (rw [Int.natCast_add]; exact VLe.refl _) | exact vle_int (by omega) | exact vle_bool (by first | rfl | assumption | (simp_all; done) | fail) | fail)); done))) | (refine ble ?_; (repeat (first | exact uE | assumption | refine uN (by omega) ?_ | fail)); done) | exact ble (tl_eq (by repeat (first | exact uE | assumption | refine uN (by omega) ?_ | fail)) (by first | rfl | (simp [bytesV, beB_len]; done) | (simp [bytesV, beB_len]; omega) | omega))); refine bl_ne e_ ?_; exact ble (by repeat (first | exact rfl | refine uN (by omega) ?_ | assumption | exact hf0 _ (by omega) (by first | assumption | omega) | fail))
      · intro p hp cs hcs; simp only [List.mem_cons, List.not_mem_nil, or_false] at hp; (first | (rcases hp with rfl)) <;> (first | (cases hcs; done) | (cases hcs; repeat (first | exact trivial | assumption | omega | (refine bdR_map (fun _ => ?_)) | (refine bdL_map (fun _ => ?_)) | refine ⟨?_, ?_⟩ | fail)))
      · repeat (first | exact trivial | assumption | omega | (refine bdR_map (fun _ => ?_)) | (refine bdL_map (fun _ => ?_)) | refine ⟨?_, ?_⟩ | fail)
end Go.Proofs.Ytdmkhpnjjpeeaaa

/- Walks by the logic of values. -/
namespace Go.Proofs.Ytdmkhpnjjpeeaaa
open Go.Vm
set_option linter.unusedVariables false
set_option linter.unusedSimpArgs false
open Crc
attribute [local irreducible] Go.Vm.beB
end Go.Proofs.Ytdmkhpnjjpeeaaa

