import Derived.Test.YtdmkhpnjjpeeaaaKcQq
import Derived.Test.YtdmkhpnjjpeeaaaKcVmP
import Derived.Test.YtdmkhpnjjpeeaaaKcVmT
import Derived.Test.YtdmkhpnjjpeeaaaKcWa
import Derived.Test.YtdmkhpnjjpeeaaaKcWc
import Derived.Test.YtdmkhpnjjpeeaaaKcWd
import Derived.Test.YtdmkhpnjjpeeaaaKcWe
import Derived.Test.YtdmkhpnjjpeeaaaKcVd
import Derived.Test.YtdmkhpnjjpeeaaaKcVe
import Derived.Test.YtdmkhpnjjpeeaaaKcVj
import Derived.Test.YtdmkhpnjjpeeaaaKcVk
import Derived.Test.YtdmkhpnjjpeeaaaKcVn
import Derived.Test.YtdmkhpnjjpeeaaaKcWh
import Derived.Test.YtdmkhpnjjpeeaaaKcVmZ
import Derived.Test.YtdmkhpnjjpeeaaaKcVq
import Derived.Test.YtdmkhpnjjpeeaaaKcVr
import Derived.Test.YtdmkhpnjjpeeaaaKcVt
import Derived.Test.YtdmkhpnjjpeeaaaKcVu
import Derived.Test.YtdmkhpnjjpeeaaaKcVw
import Derived.Test.YtdmkhpnjjpeeaaaKcVx
namespace Go.Proofs.Ytdmkhpnjjpeeaaa
open Go.Vm
set_option linter.unusedVariables false
set_option linter.unusedSimpArgs false
open Crc
attribute [local irreducible] Go.Vm.beB
theorem off_le {es : List En} {ok : Nat → Bool} {sz j : Nat} (h : ∀ q, q < off es j → ok q = true) (hk : ∀ q, sz ≤ q → ok q = false) : off es j ≤ sz := by
  refine Nat.le_of_not_lt fun hn => ?_
  have h1 := h sz hn
  rw [hk sz (Nat.le_refl _)] at h1; cases h1
theorem whJ_all (es : List En) (ok : Nat → Bool) : ∀ n, (∀ q, q < off es (whJ es ok n) → ok q = true) ∧ whJ es ok n ≤ n
  | 0 => ⟨fun q hq => absurd hq (Nat.not_lt_zero _), Nat.le_refl _⟩
  | n + 1 => by
    simp only [whJ]
    split
    · rename_i h; exact ⟨fun q hq => List.all_eq_true.1 h q (List.mem_range.2 hq), Nat.le_refl _⟩
    · have := whJ_all es ok n; exact ⟨this.1, by omega⟩
theorem zS_rows (m : Nat) : List.replicate m ((List.replicate 64 (Value.int .u8 0)).map V.sc) = secsV (zS m) := by
  unfold zS secsV; rw [List.map_replicate, List.map_replicate, List.map_replicate]; rfl
theorem takeN_len {S : List (List Int)} {x n : Nat} (h : x + n ≤ S.length) : (takeN S x n).length = n := by unfold takeN; rw [List.length_take, List.length_drop]; omega
theorem takeN_mem {S : List (List Int)} {x n : Nat} : ∀ r ∈ takeN S x n, r ∈ S := fun r hr => List.mem_of_mem_drop (List.mem_of_mem_take hr)
theorem join_J (ka : Nat) (es : List En) (T : List (List Int)) (ok : Nat → Bool) (J : Nat) (hJ : whJ es ok es.length = J) (hes : LogOK es) (hl : es.length ≤ 100000 ∧ T.length ≤ 100000) (hT : TK es T ok) (h64 : ∀ x ∈ T, x.length = 64) (hk : ∀ q, T.length ≤ q → ok q = false) : Does Try.prog 14 [.sl 64 (secsV T)] [(ka, .dead)] [(ka, .tail ((es.take J).map enC).length)] (.tup [.own 13 ((es.take J).map enC) ka, .sc (.int .i64 (off es J : Int))]) := by
  subst hJ; exact join_c ka es T ok hes hl hT h64 hk
set_option maxRecDepth 100000 in
set_option maxHeartbeats 4000000 in
theorem open_w (kl k1 k2 ka : Nat) (b sz : Nat) (S : List (List Int)) (w f : Int) (kp : List Bool) (es : List En) (ok : Nat → Bool) (J : Nat) (hJ : whJ es ok es.length = J) (hkk : k1 ≠ k2) (hkl : kl ≠ k1 ∧ kl ≠ k2 ∧ ka ≠ k1 ∧ ka ≠ k2 ∧ kl ≠ ka) (hS : ∀ r ∈ S, r.length = 64) (hSL : S.length ≤ 100000) (hin : 1 ≤ sz ∧ b + sz ≤ S.length) (hes : LogOK es) (hel : es.length ≤ 100000) (hT : TK es (takeN S b sz) ok) (hk : ∀ q, sz ≤ q → ok q = false) (hf : f ≠ 0) (hw : 0 ≤ w ∧ w ≤ 1000000) (hff : -1 ≤ f ∧ f ≤ 9223372036854775807) (hd : (off es J) < sz) : Does Try.prog 19 [.ref k1 0, .sc (.int .i64 (b : Int)), .sc (.int .i64 (sz : Int))] [(kl, .dead), (ka, .dead), (k1, .cells [.msl k2 0 S.length S.length 64, .sc (.int .i64 w), .sc (.int .i64 f), .sl 1 (boolsV kp), .sc (.bool false)]), (k2, .cells (S.flatten.map bV))] [(kl, .cells [.ref k1 0, .sc (.int .i64 (b : Int)), .sc (.int .i64 (sz : Int)), .sc (.int .i64 ((off es J) : Int)), .sc (.slice none 0 0), .own 13 ((es.take J).map enC) ka]), (ka, .tail ((es.take J).map enC).length), (k2, .cells ((mixS S ((b : Int) + ((off es J) : Int)) (zS (sz - (off es J))) f kp).flatten.map bV)), (k1, .cells [.msl k2 0 S.length S.length 64, .sc (.int .i64 (w + 1)), .sc (.int .i64 (if f > 0 then f - 1 else f)), .sl 1 (boolsV kp), .sc (.bool false)])] (.tup [.ref kl 0, .sc (.int .i64 0)]) := by
  refine does_mkg 40 Try.func19 rfl rfl rfl (fun n B bx hd hpre hup hvs hbx hgx => ?_);have hp0 := hpre.1;have hz0 := hp0;have hp1 := hpre.2.1;have hz1 := hp1;have hp2 := hpre.2.2.1;have hk2 := lt_cells hd hp2;have hp3 := hpre.2.2.2.1;have hk3 := lt_cells hd hp3;have hu0 := hup.1;have hu1 := hup.2.1;have hu2 := hup.2.2.1;have hu3 := hup.2.2.2.1;have hwa_ := whJ_all es ok es.length;rw [hJ] at hwa_;have hdl_ := off_le hwa_.1 hk;have htl_ := takeN_len hin.2;have hzl_ := zS_len (sz - off es J);have hzr_ : List.replicate (sz - (off es J)) ((List.replicate 64 (Value.int .u8 0)).map V.sc) = secsV (zS (sz - (off es J))) := zS_rows _;refine runs_seq ?_;refine runs_region ?_;refine rl0 (gn rfl) rfl rfl (step_as rfl rfl) trivial ?_;refine rl0 (gn rfl) rfl rfl (step_as rfl rfl) trivial ?_;refine runsL_nil ?_;refine runs_seq ?_;refine runs_region ?_;refine rl0 (gn rfl) rfl rfl (step_mv rfl rfl) trivial ?_;refine rl0 (gn rfl) rfl rfl (step_mv rfl rfl) trivial ?_;refine rl0 (gn rfl) rfl rfl (step_mv rfl rfl) trivial ?_;refine rl1 (gn rfl) rfl rfl (step_callc rfl Try.func18 rfl rfl rfl (wnew_ok k1 k2 S.length _ _ _ _ (b : Int) (sz : Int) hSL (by omega) kl (by omega)) t_62) ⟨t_0, t_0, trivial⟩ (by omega) ?_;refine rl0 (gn rfl) rfl rfl (step_mv rfl rfl) trivial ?_;refine rl0 (gn rfl) rfl rfl (step_extract rfl (ev_mk rfl) rfl) trivial ?_;refine rl0 (gn rfl) rfl rfl (step_extract rfl (ev_mk rfl) rfl) trivial ?_;refine rl0 (gn rfl) rfl rfl (step_as rfl rfl) trivial ?_;refine rl0 (gn rfl) rfl rfl (step_as rfl rfl) trivial ?_;refine runsL_nil ?_;refine runs_seq ?_;refine runs_seq ?_;refine runs_region ?_;refine rl0 (gn rfl) rfl rfl (step_mv rfl rfl) trivial ?_;refine rl_neq (gn rfl) rfl rfl rfl rfl rfl (fun h1 => ?_) (fun h1 => ?_)
  · exact t_42
  refine runsL_nil ?_;refine runs_cond false (ev_mk rfl) (fun h_ => nomatch h_) (fun _ => ?_);refine runs_skip ?_;refine runs_seq ?_;refine runs_region ?_;refine rl0 (gn rfl) rfl rfl (step_mv rfl rfl) trivial ?_;refine rl0 (gn rfl) rfl rfl (step_mv rfl rfl) trivial ?_;refine rl0 (gn rfl) rfl rfl (step_mv rfl rfl) trivial ?_;refine rl0 (gn rfl) rfl rfl (step_callc rfl Try.func43 rfl rfl rfl (read_ok k1 k2 S w f kp false (b : Int) (sz : Int) hSL (by omega) (by omega) hS (decide_eq_true (by omega)) rfl) t_62) ⟨t_0, t_0, trivial⟩ ?_;refine rl0 (gn rfl) rfl rfl (step_mv rfl rfl) trivial ?_;refine rl0 (gn rfl) rfl rfl (step_extract rfl (ev_mk rfl) rfl) trivial ?_;refine rl0 (gn rfl) rfl rfl (step_extract rfl (ev_mk rfl) rfl) trivial ?_;refine rl0 (gn rfl) rfl rfl (step_as rfl rfl) trivial ?_;refine rl0 (gn rfl) rfl rfl (step_as rfl rfl) trivial ?_;refine runsL_nil ?_;refine runs_seq ?_;refine runs_seq ?_;refine runs_region ?_;refine rl0 (gn rfl) rfl rfl (step_mv rfl rfl) trivial ?_;refine rl_neq (gn rfl) rfl rfl rfl rfl rfl (fun h2 => ?_) (fun h2 => ?_)
  · exact t_42
  refine runsL_nil ?_;refine runs_cond false (ev_mk rfl) (fun h_ => nomatch h_) (fun _ => ?_);refine runs_skip ?_;refine runs_seq ?_;refine runs_region ?_;refine rl0 (gn rfl) rfl rfl (step_mv rfl rfl) trivial ?_;refine rl0 (gn rfl) rfl rfl (step_mv rfl rfl) trivial ?_;refine rl0 (gn rfl) rfl rfl (step_mv rfl rfl) trivial ?_;refine rl1 (gn rfl) rfl rfl (step_callc rfl Try.func14 rfl rfl rfl (join_J ka es (takeN S b sz) ok J hJ hes ⟨hel, by omega⟩ hT (fun r_ hr_ => hS r_ (takeN_mem r_ hr_)) (fun q_ hq_ => hk q_ (by omega))) t_62) ⟨t_0, trivial⟩ (by omega) ?_;refine rl0 (gn rfl) rfl rfl (step_mv rfl rfl) trivial ?_;refine rl0 (gn rfl) rfl rfl (step_extract rfl (ev_mk rfl) rfl) trivial ?_;refine rl0 (gn rfl) rfl rfl (step_extract rfl (ev_mk rfl) rfl) trivial ?_;refine rl0 (gn rfl) rfl rfl (step_nilCheck rfl (ev_mk rfl) (.inl ⟨_, _, rfl⟩)) trivial ?_;refine rl0 (gn rfl) rfl rfl (step_fieldAddr (off := 5) rfl (ev_mk rfl) Try.underlying96 rfl F.sz24 rfl) trivial ?_;refine' rls (gn rfl) rfl (step_store1 rfl rfl rfl rfl F.one24 rfl rfl ?hl ?hc) ⟨?hb, trivial⟩ ?hk ?_
  case hb => exact t_0
  case hl => exact t_22
  case hc => exact t_28
  case hk => omega
  refine rl0 (gn rfl) rfl rfl (step_nilCheck rfl (ev_mk rfl) (.inl ⟨_, _, rfl⟩)) trivial ?_;refine rl0 (gn rfl) rfl rfl (step_fieldAddr (off := 3) rfl (ev_mk rfl) Try.underlying96 rfl F.sz3 rfl) trivial ?_;refine' rls (gn rfl) rfl (step_store1 rfl rfl rfl rfl F.one3 rfl rfl ?hl ?hc) ⟨?hb, trivial⟩ ?hk ?_
  case hb => exact t_0
  case hl => exact t_22
  case hc => exact t_28
  case hk => omega
  refine runsL_nil ?_;refine runs_seq ?_;refine runs_region ?_;refine rl0 (gn rfl) rfl rfl (step_mv rfl rfl) trivial ?_;refine rl0 (gn rfl) rfl rfl (step_mv rfl rfl) trivial ?_;refine rl0 (gn rfl) rfl rfl (step_nilCheck rfl (ev_mk rfl) (.inl ⟨_, _, rfl⟩)) trivial ?_;refine rl0 (gn rfl) rfl rfl (step_fieldAddr (off := 3) rfl (ev_mk rfl) Try.underlying96 rfl F.sz3 rfl) trivial ?_;refine' rl0 (gn rfl) rfl rfl (step_load_one rfl (ev_mk rfl) F.one3 ?hv) ⟨?hb, trivial⟩ ?_
  case hb => exact t_0
  case hv => rfl
  refine rl0 (gn rfl) rfl rfl (step_subw (r := ((sz - (off es J) : Nat) : Int)) rfl (ev_mk rfl) (ev_mk rfl) ((by rw [show (sz : Int) - ((off es J) : Int) = ((sz - (off es J) : Nat) : Int) by omega]; exact w64 (by omega)))) trivial ?_;refine rl0 (gn rfl) rfl rfl (step_make_fl_ (len := (sz - (off es J))) (zs := (List.replicate 64 (.int .u8 0))) rfl (ev_mk rfl) (ev_mk rfl) Try.underlying27 F.el47 F.zero47 t_33 t_33 (by first | rfl | decide | simp [oneV]) (by omega)) trivial ?_;refine rl0 (gn rfl) rfl rfl (step_as rfl rfl) trivial ?_;refine runsL_nil ?_;refine runs_seq ?_;refine runs_seq ?_;refine runs_region ?_;refine rl0 (gn rfl) rfl rfl (step_mv rfl rfl) trivial ?_;refine rl0 (gn rfl) rfl rfl (step_len (m := (sz - (off es J))) rfl rfl (ev_mk rfl) (.inl ⟨⟨_, Try.underlying27⟩, .inl ⟨_, _, .inr (.inl rfl), (by first | (rw [List.length_replicate]; done) | (rw [secsV_len, zS_len]; done))⟩⟩)) trivial ?_;refine rl_gtr (gn rfl) rfl rfl rfl rfl rfl (fun h3 => ?_) (fun h3 => ?_)
  rotate_left
  · exact t_42
  refine runsL_nil ?_;refine runs_cond true (ev_mk rfl) (fun _ => ?_) (fun h_ => nomatch h_);refine runs_seq ?_;refine runs_region ?_;refine rl0 (gn rfl) rfl rfl (step_mv rfl rfl) trivial ?_;refine rl0 (gn rfl) rfl rfl (step_mv rfl rfl) trivial ?_;refine rl0 (gn rfl) rfl rfl (step_mv rfl rfl) trivial ?_;refine rl0 (gn rfl) rfl rfl (step_nilCheck rfl (ev_mk rfl) (.inl ⟨_, _, rfl⟩)) trivial ?_;refine rl0 (gn rfl) rfl rfl (step_fieldAddr (off := 3) rfl (ev_mk rfl) Try.underlying96 rfl F.sz3 rfl) trivial ?_;refine' rl0 (gn rfl) rfl rfl (step_load_one rfl (ev_mk rfl) F.one3 ?hv) ⟨?hb, trivial⟩ ?_
  case hb => exact t_0
  case hv => rfl
  refine rl0 (gn rfl) rfl rfl (step_add rfl (ev_mk rfl) (ev_mk rfl) (w64 (by omega))) trivial ?_;refine rl0 (gn rfl) rfl rfl (step_mv rfl rfl) trivial ?_;refine rl2 (gn rfl) rfl rfl (step_callc rfl Try.func44 rfl rfl rfl (write_ok k1 k2 S w f kp false hkk hS (zS (sz - (off es J))) (zS_row _) ((b : Int) + ((off es J) : Int)) (by omega) hSL (by omega) (decide_eq_true (by omega)) rfl hf (by omega) hff) t_62) ⟨t_0, t_0, trivial⟩ (by omega) (by omega) ?_;refine rl0 (gn rfl) rfl rfl (step_as rfl rfl) trivial ?_;refine runsL_nil ?_;refine runs_seq ?_;refine runs_region ?_;refine rl0 (gn rfl) rfl rfl (step_mv rfl rfl) trivial ?_;refine rl_neq (gn rfl) rfl rfl rfl rfl rfl (fun h4 => ?_) (fun h4 => ?_)
  · exact t_42
  refine runsL_nil ?_;refine runs_cond false (ev_mk rfl) (fun h_ => nomatch h_) (fun _ => ?_);refine runs_skip ?_;refine runs_seq ?_;refine runs_region ?_;refine rl0 (gn rfl) rfl rfl (step_mv rfl rfl) trivial ?_;refine rl0 (gn rfl) rfl rfl (step_as rfl rfl) trivial ?_;refine rl0 (gn rfl) rfl rfl (step_as rfl rfl) trivial ?_;refine runsL_nil ?_;refine runs_ret ?_;refine ⟨t_17, fin_mkg (rest rfl (rest rfl res0)) ?_ ?_ ?_ ?_ ?_⟩
  · exact t_2
  · exact t_149
  · intro k_ hk_; simp only [upds]; by_cases e_ : k_ = k1; (focus subst e_; refine bl_eq ?_; first | (refine' blec ?hb ?hl; (case hb => repeat (first | exact uE | assumption | refine uN (by omega) ?_ | fail)); (case hl => first | exact VLes.refl _ | ((repeat' (first | exact VLe.refl _ | exact VLe.own_sl _ _ _ | exact VLe.fl_sl _ _ | exact VLe.nil_sl _ | exact VLe.nil_fl _ | exact VLes.refl _ | exact .nil | refine VLe.tup ?_ | refine VLe.agg ?_ | refine .cons ?_ ?_ | (rw [Int.natCast_add]; exact VLe.refl _) | exact vle_int (by omega) | exact vle_bool t_159 | fail)); done))) | (refine ble ?_; (repeat (first | exact uE | assumption | refine uN (by omega) ?_ | fail)); done) | exact ble (tl_eq t_5 t_6)); refine bl_ne e_ ?_; by_cases e_ : k_ = k2; (focus subst e_; refine bl_eq ?_; first | (refine' blec ?hb ?hl; (case hb => repeat (first | exact uE | assumption | refine uN (by omega) ?_ | fail)); (case hl => first | exact VLes.refl _ | ((repeat' (first | exact VLe.refl _ | exact VLe.own_sl _ _ _ | exact VLe.fl_sl _ _ | exact VLe.nil_sl _ | exact VLe.nil_fl _ | exact VLes.refl _ | exact .nil | refine VLe.tup ?_ | refine VLe.agg ?_ | refine .cons ?_ ?_ | (rw [Int.natCast_add]; exact VLe.refl _) | exact vle_int (by omega) | exact vle_bool t_159 | fail)); done))) | (refine ble ?_; (repeat (first | exact uE | assumption | refine uN (by omega) ?_ | fail)); done) | exact ble (tl_eq t_5 t_6)); refine bl_ne e_ ?_; by_cases e_ : k_ = ka; (focus subst e_; refine bl_eq ?_; first | (refine' blec ?hb ?hl; (case hb => repeat (first | exact uE | assumption | refine uN (by omega) ?_ | fail)); (case hl => first | exact VLes.refl _ | ((repeat' (first | exact VLe.refl _ | exact VLe.own_sl _ _ _ | exact VLe.fl_sl _ _ | exact VLe.nil_sl _ | exact VLe.nil_fl _ | exact VLes.refl _ | exact .nil | refine VLe.tup ?_ | refine VLe.agg ?_ | refine .cons ?_ ?_ | (rw [Int.natCast_add]; exact VLe.refl _) | exact vle_int (by omega) | exact vle_bool t_159 | fail)); done))) | (refine ble ?_; (repeat (first | exact uE | assumption | refine uN (by omega) ?_ | fail)); done) | exact ble (tl_eq t_5 t_6)); refine bl_ne e_ ?_; by_cases e_ : k_ = kl; (focus subst e_; refine bl_eq ?_; first | (refine' blec ?hb ?hl; (case hb => repeat (first | exact uE | assumption | refine uN (by omega) ?_ | fail)); (case hl => first | exact VLes.refl _ | ((repeat' (first | exact VLe.refl _ | exact VLe.own_sl _ _ _ | exact VLe.fl_sl _ _ | exact VLe.nil_sl _ | exact VLe.nil_fl _ | exact VLes.refl _ | exact .nil | refine VLe.tup ?_ | refine VLe.agg ?_ | refine .cons ?_ ?_ | (rw [Int.natCast_add]; exact VLe.refl _) | exact vle_int (by omega) | exact vle_bool t_159 | fail)); done))) | (refine ble ?_; (repeat (first | exact uE | assumption | refine uN (by omega) ?_ | fail)); done) | exact ble (tl_eq t_5 t_6)); refine bl_ne e_ ?_; exact ble t_14
  · intro p hp cs hcs; simp only [List.mem_cons, List.not_mem_nil, or_false] at hp; (first | (rcases hp with rfl | rfl | rfl | rfl) | (rcases hp with rfl | rfl | rfl) | (rcases hp with rfl | rfl) | (rcases hp with rfl)) <;> (first | (cases hcs; done) | (cases hcs; (first | ((repeat (first | exact trivial | assumption | omega | exact (hbx _ _ hp2).1 | exact (hbx _ _ hp2).2.2.2.2.2.1.2 | exact bd_secs | (refine bdR_map (fun _ => ?_)) | (refine bdL_map (fun _ => ?_)) | refine ⟨?_, ?_⟩ | fail)); done) | (repeat (first | exact trivial | assumption | omega | (refine bdR_map (fun _ => ?_)) | (refine bdL_map (fun _ => ?_)) | refine ⟨?_, ?_⟩ | fail)))))
  · exact t_149
end Go.Proofs.Ytdmkhpnjjpeeaaa
namespace Go.Proofs.Ytdmkhpnjjpeeaaa
open Go.Vm
set_option linter.unusedVariables false
set_option linter.unusedSimpArgs false
open Crc
attribute [local irreducible] Go.Vm.beB
theorem app_okU (kl k1 kt ka : Nat) (base sz dn : Nat) (tl : List (List Int)) (es : List En) (U : Nat) (hU : dn + tl.length = U) (e : En) (he : okEn e) (hbd : base ≤ 100000 ∧ sz ≤ 100000 ∧ dn ≤ 100000 ∧ tl.length ≤ 100000 ∧ es.length ≤ 100000) (hne : kl ≠ kt ∧ kl ≠ ka ∧ kt ≠ ka) (hc : chkF e = 0) (hw : U + wE (enAt e ((U : Int) + 1)) ≤ sz) : Does Try.prog 22 [.ref kl 0, .agg (enC e)] [(kl, .cells [.ref k1 0, .sc (.int .i64 (base : Int)), .sc (.int .i64 (sz : Int)), .sc (.int .i64 (dn : Int)), .own 64 (secsV tl) kt, .own 13 (es.map enC) ka]), (kt, .tail (secsV tl).length), (ka, .tail (es.map enC).length)] [(kl, .cells [.ref k1 0, .sc (.int .i64 (base : Int)), .sc (.int .i64 (sz : Int)), .sc (.int .i64 (dn : Int)), .own 64 (secsV (tl ++ cutB (bE (enAt e ((U : Int) + 1))) U)) kt, .own 13 ((es ++ [(enAt e ((U : Int) + 1))]).map enC) ka]), (kt, .tail (secsV (tl ++ cutB (bE (enAt e ((U : Int) + 1))) U)).length), (ka, .tail ((es ++ [(enAt e ((U : Int) + 1))]).map enC).length)] (.tup [.sc (.int .u64 ((U : Int) + 1)), .sc (.int .i64 0)]) := by
  subst hU; exact app_ok kl k1 kt ka base sz dn tl es e he hbd hne hc hw
theorem force_okD (kl k1 kt ka : Nat) (base sz dn : Nat) (tl : List (List Int)) (es : List En) (D : Nat) (hD : dn + tl.length = D) (k2 : Nat) (S : List (List Int)) (w f : Int) (kp : List Bool) (hbd : base ≤ 100000 ∧ sz ≤ 100000 ∧ dn ≤ 100000 ∧ tl.length ≤ 100000 ∧ es.length ≤ 100000) (hkk : k1 ≠ k2) (hkl : kl ≠ k1 ∧ kl ≠ k2) (hS : ∀ r ∈ S, r.length = 64) (ht : ∀ r ∈ tl, r.length = 64) (hSL : S.length ≤ 100000) (hin : base + D ≤ S.length) (hpos : 1 ≤ tl.length) (hf : f ≠ 0) (hw : 0 ≤ w ∧ w ≤ 1000000) (hff : -1 ≤ f ∧ f ≤ 9223372036854775807) : Does Try.prog 23 [.ref kl 0] [(kl, .cells [.ref k1 0, .sc (.int .i64 (base : Int)), .sc (.int .i64 (sz : Int)), .sc (.int .i64 (dn : Int)), .own 64 (secsV tl) kt, .own 13 (es.map enC) ka]), (k1, .cells [.msl k2 0 S.length S.length 64, .sc (.int .i64 w), .sc (.int .i64 f), .sl 1 (boolsV kp), .sc (.bool false)]), (k2, .cells (S.flatten.map bV))] [(kl, .cells [.ref k1 0, .sc (.int .i64 (base : Int)), .sc (.int .i64 (sz : Int)), .sc (.int .i64 (D : Int)), .sc (.slice none 0 0), .own 13 (es.map enC) ka]), (k2, .cells ((mixS S ((base : Int) + (dn : Int)) tl f kp).flatten.map bV)), (k1, .cells [.msl k2 0 S.length S.length 64, .sc (.int .i64 (w + 1)), .sc (.int .i64 (if f > 0 then f - 1 else f)), .sl 1 (boolsV kp), .sc (.bool false)])] (.sc (.int .i64 0)) := by
  subst hD; exact force_ok kl k1 kt ka base sz dn tl es k2 S w f kp hbd hkk hkl hS ht hSL (by omega) hpos hf hw hff
def ssL (es : List En) : Nat → List (List Int)
  | 0 => []
  | j + 1 => ssL es j ++ cutB (bE (at' es (j : Int))) (off es j)
theorem ssL_len (es : List En) : ∀ j, (ssL es j).length = off es j
  | 0 => rfl
  | j + 1 => by show (ssL es j ++ cutB (bE (at' es (j : Int))) (off es j)).length = _; rw [List.length_append, ssL_len es j, cutB_len]; rfl
theorem ssL_row (es : List En) : ∀ j, ∀ r ∈ ssL es j, r.length = 64
  | 0, r, h => by cases h
  | j + 1, r, h => by
    rcases List.mem_append.1 h with h | h
    · exact ssL_row es j r h
    · exact cutB_64 _ _ r h
theorem cutB_at {b : List Int} {a r : Nat} (h : r < nS b) : (cutB b a)[r]? = some (secA b a r) := by
  unfold cutB cutT; rw [List.getElem?_map, List.getElem?_range h]; rfl
theorem ssL_at {es : List En} : ∀ {n j r : Nat}, j < n → r < wE (at' es (j : Int)) → (ssL es n)[off es j + r]? = some (secA (bE (at' es (j : Int))) (off es j) r)
  | n + 1, j, r, hj, hr => by
    show (ssL es n ++ cutB _ _)[off es j + r]? = _
    by_cases e : j = n
    · subst e; rw [List.getElem?_append_right (by rw [ssL_len]; omega), ssL_len, Nat.add_sub_cancel_left]; exact cutB_at hr
    · have h1 := off_mono (es := es) (show j + 1 ≤ n by omega)
      have h2 : off es (j + 1) = off es j + wE (at' es (j : Int)) := rfl
      rw [List.getElem?_append_left (by rw [ssL_len]; omega)]
      exact ssL_at (by omega) hr
theorem at_some {l : List (List Int)} {i : Nat} {x : List Int} (h : l[i]? = some x) : i < l.length ∧ at' l (i : Int) = x := by
  have hl : i < l.length := by
    rcases Nat.lt_or_ge i l.length with z | z
    · exact z
    · rw [List.getElem?_eq_none z] at h; cases h
  rw [List.getElem?_eq_getElem hl] at h
  exact ⟨hl, (at_nat _ _ hl).trans (Option.some.inj h)⟩
theorem TK_of {es : List En} {T : List (List Int)} {ok : Nat → Bool} (h1 : ∀ i : Nat, ok i = true → T[i]? = (ssL es es.length)[i]?) (h2 : ∀ i : Nat, i < T.length → ok i = false → at' T (i : Int) = List.replicate 64 0) (h3 : ∀ i, off es es.length ≤ i → ok i = false) : TK es T ok :=
  ⟨fun j r hj hr ho => at_some ((h1 _ ho).trans (ssL_at hj hr)), h2, h3⟩
theorem TK_ss {es : List En} {m : Nat} : TK es (ssL es es.length ++ zS m) (fun q => decide (q < off es es.length)) := by
  refine TK_of (fun i h => ?_) (fun i hi h => ?_) (fun i h => decide_eq_false (by omega))
  · have := of_decide_eq_true h
    rw [List.getElem?_append_left (by rw [ssL_len]; exact this)]
  · have h := of_decide_eq_false h
    rw [List.length_append, ssL_len, zS_len] at hi
    refine (at_some (x := List.replicate 64 0) ?_).2;rw [List.getElem?_append_right (by rw [ssL_len]; omega), ssL_len];unfold zS; rw [List.getElem?_replicate, if_pos (by omega)]
theorem take_mix {S tl : List (List Int)} {x sz : Nat} {f : Int} {kp : List Bool} (hf : f ≠ 0) (h : x + tl.length ≤ S.length) (h2 : tl.length ≤ sz) (hz : (S.drop (x + tl.length)).take (sz - tl.length) = zS (sz - tl.length)) : takeN (mixS S (x : Int) tl f kp) x sz = tl ++ zS (sz - tl.length) := by
  rw [← mixS_all S (x : Int) tl f kp hf (by omega) (by omega), Int.toNat_natCast]
  unfold takeN
  rw [List.append_assoc, List.drop_append, List.length_take, Nat.min_eq_left (by omega), List.drop_eq_nil_of_le t_97, List.nil_append, Nat.sub_self, List.drop_zero, List.take_append, List.take_of_length_le h2, hz]
abbrev wq1 : En := ⟨0, 1, 4, 0, 0, zRc, [], []⟩
abbrev wq2 : En := ⟨0, 6, 4, 1, 0, zRc, [], []⟩
abbrev wq3 : En := ⟨0, 8, 4, 0, 0, zRc, [], []⟩
abbrev xq1 : En := enAt wq1 (((0 : Nat) : Int) + 1)
abbrev xq2 : En := enAt wq2 (((2 : Nat) : Int) + 1)
abbrev xq3 : En := enAt wq3 (((4 : Nat) : Int) + 1)
abbrev tq1 : List (List Int) := [] ++ cutB (bE xq1) 0
abbrev tq2 : List (List Int) := tq1 ++ cutB (bE xq2) 2
abbrev tq3 : List (List Int) := [] ++ cutB (bE xq3) 4
abbrev lg1 : List En := [] ++ [xq1]
abbrev lg2 : List En := lg1 ++ [xq2]
abbrev lg3 : List En := lg2 ++ [xq3]
abbrev sq1 : List (List Int) := mixS (zS 12) (((1 : Nat) : Int) + ((0 : Nat) : Int)) tq2 (-1) []
theorem okEn_w {e : En} (h1 : e.r = zRc) (h2 : e.pages = []) (h3 : e.act = []) (h : U64 e.lsn ∧ U64 e.txn ∧ U64 e.prev ∧ U64 e.next) : okEn e := by
  refine ⟨h.1, h.2.1, h.2.2.1, h.2.2.2, by rw [h1]; exact ⟨⟨by decide, by decide⟩, ⟨by decide, by decide⟩, ⟨by decide, by decide⟩, ⟨by decide, by decide⟩⟩, fun m hm => ?_, fun a ha => ?_⟩
  · rw [h2] at hm; cases hm
  · rw [h3] at ha; cases ha
theorem ok_w1 : okEn wq1 := okEn_w rfl rfl rfl ⟨⟨by decide, by decide⟩, ⟨by decide, by decide⟩, ⟨by decide, by decide⟩, ⟨by decide, by decide⟩⟩
theorem ok_w2 : okEn wq2 := okEn_w rfl rfl rfl ⟨⟨by decide, by decide⟩, ⟨by decide, by decide⟩, ⟨by decide, by decide⟩, ⟨by decide, by decide⟩⟩
theorem ok_w3 : okEn wq3 := okEn_w rfl rfl rfl ⟨⟨by decide, by decide⟩, ⟨by decide, by decide⟩, ⟨by decide, by decide⟩, ⟨by decide, by decide⟩⟩
theorem okL_1 : okL xq1 := ⟨okEn_at ok_w1 ⟨by decide, by decide⟩, by decide +kernel⟩
theorem okL_2 : okL xq2 := ⟨okEn_at ok_w2 ⟨by decide, by decide⟩, by decide +kernel⟩
theorem wE_1 : wE xq1 = 2 := by unfold wE nS bE; rw [sealB_len]; decide +kernel
theorem wE_2 : wE xq2 = 2 := by unfold wE nS bE; rw [sealB_len]; decide +kernel
theorem wE_3 : wE xq3 = 2 := by unfold wE nS bE; rw [sealB_len]; decide +kernel
theorem tq1_len : tq1.length = 2 := by show ([] ++ cutB (bE xq1) 0).length = 2; rw [List.nil_append, cutB_len]; exact wE_1
theorem t2_len : tq2.length = 4 := by show (tq1 ++ cutB (bE xq2) 2).length = 4; rw [List.length_append, tq1_len, cutB_len]; exact congrArg (2 + ·) wE_2
theorem t3_len : tq3.length = 2 := by show ([] ++ cutB (bE xq3) 4).length = 2; rw [List.nil_append, cutB_len]; exact wE_3
theorem t2_row : ∀ r ∈ tq2, r.length = 64 := fun r h => by
  rcases List.mem_append.1 h with h | h
  · rcases List.mem_append.1 h with h | h
    · cases h
    · exact cutB_64 _ _ r h
  · exact cutB_64 _ _ r h
theorem off_1 : off lg2 1 = 2 := by show 0 + wE xq1 = 2; rw [wE_1]
theorem off_2 : off lg2 2 = 4 := by show off lg2 1 + wE xq2 = 4; rw [off_1, wE_2]
theorem log_2 : LogOK lg2 := ⟨fun e h => by
    rcases List.mem_append.1 h with h | h
    · rcases List.mem_append.1 h with h | h
      · cases h
      · obtain rfl := List.mem_singleton.1 h; exact okL_1
    · obtain rfl := List.mem_singleton.1 h; exact okL_2, fun j h => by
    have h' : j < 2 := h
    rcases (by omega : j = 0 ∨ j = 1) with rfl | rfl
    · rfl
    · show (3 : Int) = ((off lg2 1 : Nat) : Int) + 1; rw [off_1]; rfl⟩
theorem t2_ss : tq2 = ssL lg2 2 := by
  show ([] ++ cutB (bE xq1) 0) ++ cutB (bE xq2) 2 = ([] ++ cutB (bE xq1) 0) ++ cutB (bE xq2) (off lg2 1)
  rw [off_1]
theorem s1_len : sq1.length = 12 := by rw [mixS_len, zS_len]
theorem s1_row : ∀ r ∈ sq1, r.length = 64 := mixS_row _ _ _ _ _ (zS_row 12) t2_row
theorem s1_take : takeN sq1 1 10 = ssL lg2 lg2.length ++ zS 6 := by
  have := take_mix (S := zS 12) (tl := tq2) (x := 1) (sz := 10) (f := -1) (kp := []) (by decide) (by rw [t2_len, zS_len]; decide) (by rw [t2_len]; decide) (by rw [t2_len]; rfl)
  rw [show sq1 = mixS (zS 12) ((1 : Nat) : Int) tq2 (-1) [] from rfl, this, t2_len]
  exact congrArg (· ++ zS 6) t2_ss
theorem tk_1 : TK lg2 (takeN sq1 1 10) (fun q => decide (q < 4)) := by
  have := TK_ss (es := lg2) (m := 6)
  rw [← s1_take, show off lg2 lg2.length = 4 from off_2] at this
  exact this
theorem wh_1 : whJ lg2 (fun q => decide (q < 4)) lg2.length = 2 := whJ_top (j := 2) fun q h => decide_eq_true (by rw [off_2] at h; exact h)
theorem tk_0 : TK [] [] (fun _ => false) := ⟨fun j r h => absurd h (Nat.not_lt_zero _), fun i h => absurd h (Nat.not_lt_zero _), fun i _ => rfl⟩
theorem log_0 : LogOK [] := ⟨fun e h => (by cases h), fun j h => absurd h (Nat.not_lt_zero _)⟩
end Go.Proofs.Ytdmkhpnjjpeeaaa
namespace Go.Proofs.Ytdmkhpnjjpeeaaa
open Go.Vm
set_option linter.unusedVariables false
set_option linter.unusedSimpArgs false
open Crc
attribute [local irreducible] Go.Vm.beB
abbrev zz : List Int := List.replicate 60 0
theorem zz_len : (cutB zz 3).length = 2 := by rw [cutB_len]; rfl
theorem zz_byts : Byts zz := fun x h => by rw [List.eq_of_mem_replicate h]; omega
theorem zz_0 : at' (cutB zz 3) 0 = secA zz 3 0 := rfl
theorem zz_1 : at' (cutB zz 3) 1 = secA zz 3 1 := rfl
theorem lgt_len : (lg2.take 2).length = 2 := rfl
theorem lgt_p : ∀ m : Nat, m < (lg2.take 2).length → ((at' (lg2.take 2) (m : Int)).lsn < (2 : Int) + 1 ↔ m < 1) := fun m h => by
  rw [lgt_len] at h
  rcases (by omega : m = 0 ∨ m = 1) with rfl | rfl <;> decide +kernel
theorem lgt_q : ∀ m : Nat, m < (lg2.take 2).length → ((at' (lg2.take 2) (m : Int)).lsn < (2 : Int) ↔ m < 1) := fun m h => by
  rw [lgt_len] at h
  rcases (by omega : m = 0 ∨ m = 1) with rfl | rfl <;> decide +kernel
set_option maxRecDepth 100000 in
set_option maxHeartbeats 4000000 in
theorem works_c  : Does Try.prog 6 [] [] [] (.sc (.bool true)) := by
  refine does_mkg 60 Try.func6 rfl rfl rfl (fun n B bx hd hpre hup hvs hbx hgx => ?_);have ht1_ := tq1_len;have ht2_ := t2_len;have ht3_ := t3_len;have hw1_ : wE (enAt wq1 (((0 : Nat) : Int) + 1)) = 2 := wE_1;have hw2_ : wE (enAt wq2 (((2 : Nat) : Int) + 1)) = 2 := wE_2;have hw3_ : wE (enAt wq3 (((4 : Nat) : Int) + 1)) = 2 := wE_3;have ho2_ := off_2;have hz2_ := zz_len;have hlt_ := lgt_len;refine runs_seq ?_;refine runs_region ?_;refine rl0 (gn rfl) rfl rfl (step_as rfl rfl) trivial ?_;refine runsL_nil ?_;refine runs_seq ?_;refine runs_region ?_;refine rl2 (gn rfl) rfl rfl (step_callc rfl Try.func17 rfl rfl rfl (new_ok 12 (by omega) (by omega) (n + 0) (n + 1) (by omega)) t_8) ⟨t_0, t_0, trivial⟩ (by omega) (by omega) ?_;refine rl0 (gn rfl) rfl rfl (step_mv rfl rfl) trivial ?_;refine rl0 (gn rfl) rfl rfl (step_extract rfl (ev_mk rfl) rfl) trivial ?_;refine rl0 (gn rfl) rfl rfl (step_extract rfl (ev_mk rfl) rfl) trivial ?_;refine rl0 (gn rfl) rfl rfl (step_as rfl rfl) trivial ?_;refine rl0 (gn rfl) rfl rfl (step_as rfl rfl) trivial ?_;refine runsL_nil ?_;refine runs_seq ?_;refine runs_seq ?_;refine runs_region ?_;refine rl0 (gn rfl) rfl rfl (step_mv rfl rfl) trivial ?_;refine rl0 (gn rfl) rfl rfl (step_eq_nil (b := false) rfl (ev_mk rfl) (ev_mk rfl) Try.underlying53 ⟨_, .inl ⟨.inl ⟨_, _, rfl⟩, rfl⟩, .inl ⟨rfl, rfl⟩⟩) trivial ?_;refine runsL_nil ?_;refine runs_cond false (ev_mk rfl) (fun h_ => nomatch h_) (fun _ => ?_);refine runs_skip ?_;refine runs_seq ?_;refine runs_region ?_;refine rl0 (gn rfl) rfl rfl (step_mv rfl rfl) trivial ?_;refine rl1 (gn rfl) rfl rfl (step_callc rfl Try.func18 rfl rfl rfl (wnew_ok (n + 0) (n + 1) 12 _ _ _ _ 1 10 (by omega) (by omega) (n + 2) (by omega)) t_8) ⟨t_0, t_0, trivial⟩ (by omega) ?_;refine rl0 (gn rfl) rfl rfl (step_mv rfl rfl) trivial ?_;refine rl0 (gn rfl) rfl rfl (step_extract rfl (ev_mk rfl) rfl) trivial ?_;refine rl0 (gn rfl) rfl rfl (step_extract rfl (ev_mk rfl) rfl) trivial ?_;refine rl0 (gn rfl) rfl rfl (step_as rfl rfl) trivial ?_;refine rl0 (gn rfl) rfl rfl (step_as rfl rfl) trivial ?_;refine runsL_nil ?_;refine runs_seq ?_;refine runs_region ?_;refine rl0 (gn rfl) rfl rfl (step_mv rfl rfl) trivial ?_;refine rl0 (gn rfl) rfl rfl (step_callc rfl Try.func18 rfl rfl rfl (wnew_bad (n + 0) (n + 1) 12 _ _ _ _ 5 8 (by omega) (by omega) (by omega)) t_8) ⟨t_0, trivial⟩ ?_;refine rl0 (gn rfl) rfl rfl (step_mv rfl rfl) trivial ?_;refine rl0 (gn rfl) rfl rfl (step_extract rfl (ev_mk rfl) rfl) trivial ?_;refine rl0 (gn rfl) rfl rfl (step_extract rfl (ev_mk rfl) rfl) trivial ?_;refine rl0 (gn rfl) rfl rfl (step_as rfl rfl) trivial ?_;refine rl0 (gn rfl) rfl rfl (step_as rfl rfl) trivial ?_;refine runsL_nil ?_;refine runs_seq ?_;refine runs_seq ?_;refine runs_region ?_;refine rl0 (gn rfl) rfl rfl (step_mv rfl rfl) trivial ?_;refine rl0 (gn rfl) rfl rfl (step_eq_nil (b := false) rfl (ev_mk rfl) (ev_mk rfl) Try.underlying56 ⟨_, .inl ⟨.inl ⟨_, _, rfl⟩, rfl⟩, .inl ⟨rfl, rfl⟩⟩) trivial ?_;refine runsL_nil ?_;refine runs_cond false (ev_mk rfl) (fun h_ => nomatch h_) (fun _ => ?_);refine runs_skip ?_;refine runs_seq ?_;refine runs_growb (k := n + 2) (kn := n + 3) (q := 4) (e := 64) t_0 rfl t_0 (by omega) (by omega) ?_;refine runs_growb (k := n + 2) (kn := n + 4) (q := 5) (e := 13) t_0 rfl t_0 (by omega) (by omega) ?_;refine runs_region ?_;refine rl0 (gn rfl) rfl rfl (step_mv rfl rfl) trivial ?_;refine rl0 (gn rfl) rfl rfl (step_build (ss := [1, 1, 1, 1, 1, 6, 1, 1]) (zs := [.int .u64 0, .int .i64 0, .int .u64 0, .int .u64 0, .int .u64 0, .int .u64 0, .int .u64 0, .int .u32 0, .int .u32 0, .string ByteArray.empty, .bool false, .slice none 0 0, .slice none 0 0]) rfl Try.underlying40 (by kernel_rfl) F.zero40 rfl rfl rfl) trivial ?_;refine rl3 (gn rfl) rfl rfl (step_callc rfl Try.func22 rfl rfl rfl (app_okU (n + 2) (n + 0) (n + 3) (n + 4) 1 10 0 [] [] 0 rfl wq1 ok_w1 ⟨by omega, by omega, by omega, by simp, by simp⟩ ⟨by omega, by omega, by omega⟩ (by decide +kernel) (by omega)) t_8) ⟨t_0, t_0, t_0, trivial⟩ (by omega) (by omega) (by omega) ?_;refine rl0 (gn rfl) rfl rfl (step_mv rfl rfl) trivial ?_;refine rl0 (gn rfl) rfl rfl (step_extract rfl (ev_mk rfl) rfl) trivial ?_;refine rl0 (gn rfl) rfl rfl (step_extract rfl (ev_mk rfl) rfl) trivial ?_;refine rl0 (gn rfl) rfl rfl (step_as rfl rfl) trivial ?_;refine rl0 (gn rfl) rfl rfl (step_as rfl rfl) trivial ?_;refine runsL_nil ?_;refine runs_seq ?_;refine runs_region ?_;refine rl0 (gn rfl) rfl rfl (step_mv rfl rfl) trivial ?_;refine rl0 (gn rfl) rfl rfl (step_mv rfl rfl) trivial ?_;refine rl0 (gn rfl) rfl rfl (step_build (ss := [1, 1, 1, 1, 1, 6, 1, 1]) (zs := [.int .u64 0, .int .i64 0, .int .u64 0, .int .u64 0, .int .u64 0, .int .u64 0, .int .u64 0, .int .u32 0, .int .u32 0, .string ByteArray.empty, .bool false, .slice none 0 0, .slice none 0 0]) rfl Try.underlying40 (by kernel_rfl) F.zero40 rfl rfl rfl) trivial ?_;refine rl3 (gn rfl) rfl rfl (step_callc rfl Try.func22 rfl rfl rfl (app_okU (n + 2) (n + 0) (n + 3) (n + 4) 1 10 0 tq1 lg1 2 (by omega) wq2 ok_w2 ⟨by omega, by omega, by omega, by omega, by decide⟩ ⟨by omega, by omega, by omega⟩ (by decide +kernel) (by omega)) t_8) ⟨t_0, t_0, t_0, trivial⟩ (by omega) (by omega) (by omega) ?_;refine rl0 (gn rfl) rfl rfl (step_mv rfl rfl) trivial ?_;refine rl0 (gn rfl) rfl rfl (step_extract rfl (ev_mk rfl) rfl) trivial ?_;refine rl0 (gn rfl) rfl rfl (step_extract rfl (ev_mk rfl) rfl) trivial ?_;refine rl0 (gn rfl) rfl rfl (step_as rfl rfl) trivial ?_;refine rl0 (gn rfl) rfl rfl (step_as rfl rfl) trivial ?_;refine runsL_nil ?_;refine runs_seq ?_;refine runs_region ?_;refine rl0 (gn rfl) rfl rfl (step_mv rfl rfl) trivial ?_;refine rl0 (gn rfl) rfl rfl (step_mv rfl rfl) trivial ?_;refine rl0 (gn rfl) rfl rfl (step_callc rfl Try.func27 rfl rfl rfl (forced_c (n + 2) (n + 0) (n + 3) (n + 4) 1 10 0 tq2 lg2 ((0 : Int) + 1) ⟨by omega, by omega, by omega, by omega, by decide⟩) t_8) ⟨t_0, trivial⟩ ?_;refine rl_know (d := 55) (c := false) rfl (by decide) ?_;refine rl0 (gn rfl) rfl rfl (step_as rfl rfl) trivial ?_;refine runsL_nil ?_;refine runs_seq ?_;refine runs_region ?_;refine rl0 (gn rfl) rfl rfl (step_mv rfl rfl) trivial ?_;refine rl3 (gn rfl) rfl rfl (step_callc rfl Try.func23 rfl rfl rfl (force_okD (n + 2) (n + 0) (n + 3) (n + 4) 1 10 0 tq2 lg2 4 (by omega) (n + 1) (zS 12) 0 (-1) [] ⟨by omega, by omega, by omega, by omega, by decide⟩ (by omega) ⟨by omega, by omega⟩ (zS_row 12) t2_row (by rw [zS_len]; omega) (by rw [zS_len]; omega) (by omega) (by omega) (by omega) (by omega)) t_8) ⟨t_0, t_0, t_0, trivial⟩ (by omega) (by omega) (by omega) ?_;refine rl0 (gn rfl) rfl rfl (step_as rfl rfl) trivial ?_;refine runsL_nil ?_;refine runs_seq ?_;refine runs_growb (k := n + 2) (kn := n + 5) (q := 4) (e := 64) t_0 rfl t_0 (by omega) (by omega) ?_;refine runs_region ?_;refine rl0 (gn rfl) rfl rfl (step_mv rfl rfl) trivial ?_;refine rl0 (gn rfl) rfl rfl (step_build (ss := [1, 1, 1, 1, 1, 6, 1, 1]) (zs := [.int .u64 0, .int .i64 0, .int .u64 0, .int .u64 0, .int .u64 0, .int .u64 0, .int .u64 0, .int .u32 0, .int .u32 0, .string ByteArray.empty, .bool false, .slice none 0 0, .slice none 0 0]) rfl Try.underlying40 (by kernel_rfl) F.zero40 rfl rfl rfl) trivial ?_;refine rl3 (gn rfl) rfl rfl (step_callc rfl Try.func22 rfl rfl rfl (app_okU (n + 2) (n + 0) (n + 5) (n + 4) 1 10 4 [] lg2 4 rfl wq3 ok_w3 ⟨by omega, by omega, by omega, by simp, by decide⟩ ⟨by omega, by omega, by omega⟩ (by decide +kernel) (by omega)) t_8) ⟨t_0, t_0, t_0, trivial⟩ (by omega) (by omega) (by omega) ?_;refine runsL_nil ?_;refine runs_seq ?_;refine runs_boxle (k := n + 0) (cs' := [.msl (n + 1) 0 sq1.length sq1.length 64, .sc (.int .i64 ((0 : Int) + 1)), .sc (.int .i64 (if (-1 : Int) > 0 then (-1 : Int) - 1 else -1)), .sl 1 (boolsV []), .sc (.bool false)]) t_0 (by rw [s1_len, zS_len]; exact VLes.refl _) ?_;refine runs_region ?_;refine rl0 (gn rfl) rfl rfl (step_mv rfl rfl) trivial ?_;refine rl4 (gn rfl) rfl rfl (step_callc rfl Try.func19 rfl rfl rfl (open_w (n + 6) (n + 0) (n + 1) (n + 7) 1 10 sq1 ((0 : Int) + 1) (if (-1 : Int) > 0 then (-1 : Int) - 1 else -1) [] lg2 (fun q => decide (q < 4)) 2 wh_1 (by omega) ⟨by omega, by omega, by omega, by omega, by omega⟩ s1_row (by rw [s1_len]; omega) (by rw [s1_len]; omega) log_2 (by decide) tk_1 (fun q_ h_ => decide_eq_false (by omega)) (by decide) (by decide) (by decide) (by omega)) t_8) ⟨t_0, t_0, t_0, t_0, trivial⟩ (by omega) (by omega) (by omega) (by omega) ?_;refine rl0 (gn rfl) rfl rfl (step_mv rfl rfl) trivial ?_;refine rl0 (gn rfl) rfl rfl (step_extract rfl (ev_mk rfl) rfl) trivial ?_;refine rl0 (gn rfl) rfl rfl (step_extract rfl (ev_mk rfl) rfl) trivial ?_;refine rl0 (gn rfl) rfl rfl (step_as rfl rfl) trivial ?_;refine rl0 (gn rfl) rfl rfl (step_as rfl rfl) trivial ?_;refine runsL_nil ?_;refine runs_seq ?_;refine runs_seq ?_;refine runs_region ?_;refine rl0 (gn rfl) rfl rfl (step_mv rfl rfl) trivial ?_;refine rl0 (gn rfl) rfl rfl (step_eq_nil (b := false) rfl (ev_mk rfl) (ev_mk rfl) Try.underlying56 ⟨_, .inl ⟨.inl ⟨_, _, rfl⟩, rfl⟩, .inl ⟨rfl, rfl⟩⟩) trivial ?_;refine runsL_nil ?_;refine runs_cond false (ev_mk rfl) (fun h_ => nomatch h_) (fun _ => ?_);refine runs_skip ?_;refine runs_seq ?_;refine runs_growb (k := n + 6) (kn := n + 8) (q := 4) (e := 64) t_0 rfl t_0 (by omega) (by omega) ?_;refine runs_region ?_;refine rl0 (gn rfl) rfl rfl (step_mv rfl rfl) trivial ?_;refine rl0 (gn rfl) rfl rfl (step_mv rfl rfl) trivial ?_;refine rl0 (gn rfl) rfl rfl (step_callc rfl Try.func28 rfl rfl rfl (find_y (n + 6) (n + 0) (n + 8) (n + 7) 1 10 (off lg2 2) [] (lg2.take 2) 1 ((2 : Int) + 1) ⟨by omega, by omega, by omega, by simp, by omega⟩ (by omega) lgt_p (by omega) rfl) t_8) ⟨t_0, trivial⟩ ?_;refine rl0 (gn rfl) rfl rfl (step_mv rfl rfl) trivial ?_;refine rl0 (gn rfl) rfl rfl (step_extract rfl (ev_mk rfl) rfl) trivial ?_;refine rl0 (gn rfl) rfl rfl (step_extract rfl (ev_mk rfl) rfl) trivial ?_;refine rl1 (gn rfl) rfl rfl (step_allocc (k := n + 9) (zs := [.int .u64 0, .int .i64 0, .int .u64 0, .int .u64 0, .int .u64 0, .int .u64 0, .int .u64 0, .int .u32 0, .int .u32 0, .string ByteArray.empty, .bool false, .slice none 0 0, .slice none 0 0]) (cs := [.sc (.int .u64 0), .sc (.int .i64 0), .sc (.int .u64 0), .sc (.int .u64 0), .sc (.int .u64 0), .sc (.int .u64 0), .sc (.int .u64 0), .sc (.int .u32 0), .sc (.int .u32 0), .sc (.string ByteArray.empty), .sc (.bool false), .sc (.slice none 0 0), .sc (.slice none 0 0)]) rfl F.zero40 t_33 t_55 t_33) ⟨t_0, trivial⟩ (by omega) ?_;refine' rls (gn rfl) rfl (step_storeA rfl rfl rfl rfl F.agg40 ?hm ?hl) ⟨?hb, trivial⟩ ?hk ?_
  case hb => exact t_0
  case hm => exact t_15
  case hl => exact t_15
  case hk => omega
  refine rl0 (gn rfl) rfl rfl (step_as rfl rfl) trivial ?_;refine runsL_nil ?_;refine runs_seq ?_;refine runs_region ?_;refine rl0 (gn rfl) rfl rfl (step_mv rfl rfl) trivial ?_;refine rl0 (gn rfl) rfl rfl (step_callc rfl Try.func28 rfl rfl rfl (find_n (n + 6) (n + 0) (n + 8) (n + 7) 1 10 (off lg2 2) [] (lg2.take 2) 1 2 ⟨by omega, by omega, by omega, by simp, by omega⟩ (by omega) lgt_q (fun _ => by decide +kernel)) t_8) ⟨t_0, trivial⟩ ?_;refine rl0 (gn rfl) rfl rfl (step_mv rfl rfl) trivial ?_;refine rl0 (gn rfl) rfl rfl (step_extract rfl (ev_mk rfl) rfl) trivial ?_;refine rl0 (gn rfl) rfl rfl (step_extract rfl (ev_mk rfl) rfl) trivial ?_;refine rl1 (gn rfl) rfl rfl (step_allocc (k := n + 10) (zs := [.int .u64 0, .int .i64 0, .int .u64 0, .int .u64 0, .int .u64 0, .int .u64 0, .int .u64 0, .int .u32 0, .int .u32 0, .string ByteArray.empty, .bool false, .slice none 0 0, .slice none 0 0]) (cs := [.sc (.int .u64 0), .sc (.int .i64 0), .sc (.int .u64 0), .sc (.int .u64 0), .sc (.int .u64 0), .sc (.int .u64 0), .sc (.int .u64 0), .sc (.int .u32 0), .sc (.int .u32 0), .sc (.string ByteArray.empty), .sc (.bool false), .sc (.slice none 0 0), .sc (.slice none 0 0)]) rfl F.zero40 t_33 t_55 t_33) ⟨t_0, trivial⟩ (by omega) ?_;refine' rls (gn rfl) rfl (step_storeA rfl rfl rfl rfl F.agg40 ?hm ?hl) ⟨?hb, trivial⟩ ?hk ?_
  case hb => exact t_0
  case hm => exact t_15
  case hl => exact t_15
  case hk => omega
  refine rl0 (gn rfl) rfl rfl (step_as rfl rfl) trivial ?_;refine runsL_nil ?_;refine runs_seq ?_;refine runs_region ?_;refine rl0 (gn rfl) rfl rfl (step_make_fl_ (len := 60) (zs := [.int .u8 0]) rfl (ev_mk rfl) (ev_mk rfl) Try.underlying22 F.el5 F.zero5 t_33 t_33 (by first | rfl | decide | simp [oneV]) (by omega)) trivial ?_;refine rl0 (gn rfl) rfl rfl (step_callc rfl Try.func8 rfl rfl rfl (cut_c zz 3 zz_byts (by simp) (by omega)) t_8) trivial ?_;refine rl0 (gn rfl) rfl rfl (step_as rfl rfl) trivial ?_;refine runsL_nil ?_;refine runs_seq ?_;refine runs_seq ?_;refine runs_region ?_;refine rl0 (gn rfl) rfl rfl (step_mv rfl rfl) trivial ?_;refine rl0 (gn rfl) rfl rfl (step_len (m := (cutB zz 3).length) rfl rfl (ev_mk rfl) (.inl ⟨⟨_, Try.underlying27⟩, .inl ⟨_, _, .inl rfl, List.length_map _⟩⟩)) trivial ?_;refine rl_neq (gn rfl) rfl rfl rfl rfl rfl (fun h1 => ?_) (fun h1 => ?_)
  · exact t_42
  refine runsL_nil ?_;refine runs_cond false (ev_mk rfl) (fun h_ => nomatch h_) (fun _ => ?_);refine runs_skip ?_;refine runs_seq ?_;refine runs_region ?_;refine rl1 (gn rfl) rfl rfl (step_callc rfl Try.func14 rfl rfl rfl (join_J (n + 11) [] [] (fun _ => false) 0 rfl log_0 ⟨by simp, by simp⟩ tk_0 (fun _ h_ => by cases h_) (fun _ _ => rfl)) t_8) ⟨t_0, trivial⟩ (by omega) ?_;refine rl0 (gn rfl) rfl rfl (step_mv rfl rfl) trivial ?_;refine rl0 (gn rfl) rfl rfl (step_extract rfl (ev_mk rfl) rfl) trivial ?_;refine rl0 (gn rfl) rfl rfl (step_extract rfl (ev_mk rfl) rfl) trivial ?_;refine rl0 (gn rfl) rfl rfl (step_as rfl rfl) trivial ?_;refine rl0 (gn rfl) rfl rfl (step_as rfl rfl) trivial ?_;refine runsL_nil ?_;refine runs_seq ?_;refine runs_region ?_;refine rl0 (gn rfl) rfl rfl (step_mv rfl rfl) trivial ?_;refine rl_eql (gn rfl) rfl rfl rfl rfl rfl (fun h2 => ?_) (fun h2 => ?_)
  rotate_left
  · exact t_42
  refine rl0 (gn rfl) rfl rfl (step_mv rfl rfl) trivial ?_;refine rl0 (gy rfl rfl rfl rfl rfl rfl) rfl rfl (step_mv rfl rfl) trivial ?_;refine rl_eql (gy rfl rfl rfl rfl rfl rfl) rfl rfl rfl rfl rfl (fun h3 => ?_) (fun h3 => ?_)
  rotate_left
  · exact t_42
  refine rl0 (gn rfl) rfl rfl (step_pick rfl (ev_mk rfl) (ev_mk rfl)) trivial ?_;refine rl0 (gn rfl) rfl rfl (step_mv rfl rfl) trivial ?_;refine rl0 (gy rfl rfl rfl rfl rfl rfl) rfl rfl (step_mv rfl rfl) trivial ?_;refine rl_eql (gy rfl rfl rfl rfl rfl rfl) rfl rfl rfl rfl rfl (fun h4 => ?_) (fun h4 => ?_)
  rotate_left
  · exact t_42
  refine rl0 (gn rfl) rfl rfl (step_pick rfl (ev_mk rfl) (ev_mk rfl)) trivial ?_;refine rl0 (gn rfl) rfl rfl (step_mv rfl rfl) trivial ?_;refine rl0 (gy rfl rfl rfl rfl rfl rfl) rfl rfl (step_mv rfl rfl) trivial ?_;refine rl_eql (gy rfl rfl rfl rfl rfl rfl) rfl rfl rfl rfl rfl (fun h5 => ?_) (fun h5 => ?_)
  rotate_left
  · exact t_42
  refine rl0 (gn rfl) rfl rfl (step_pick rfl (ev_mk rfl) (ev_mk rfl)) trivial ?_;refine rl0 (gn rfl) rfl rfl (step_mv rfl rfl) trivial ?_;refine rl0 (gy rfl rfl rfl rfl rfl rfl) rfl rfl (step_mv rfl rfl) trivial ?_;refine rl_eql (gy rfl rfl rfl rfl rfl rfl) rfl rfl rfl rfl rfl (fun h6 => ?_) (fun h6 => ?_)
  rotate_left
  · exact t_42
  refine rl0 (gn rfl) rfl rfl (step_pick rfl (ev_mk rfl) (ev_mk rfl)) trivial ?_;refine rl0 (gn rfl) rfl rfl (step_mv rfl rfl) trivial ?_;refine rl0 (gy rfl rfl rfl rfl rfl rfl) rfl rfl (step_mv rfl rfl) trivial ?_;refine rl_eql (gy rfl rfl rfl rfl rfl rfl) rfl rfl rfl rfl rfl (fun h7 => ?_) (fun h7 => ?_)
  rotate_left
  · exact t_42
  refine rl0 (gn rfl) rfl rfl (step_pick rfl (ev_mk rfl) (ev_mk rfl)) trivial ?_;refine rl0 (gn rfl) rfl rfl (step_mv rfl rfl) trivial ?_;refine rl0 (gy rfl rfl rfl rfl rfl rfl) rfl rfl (step_mv rfl rfl) trivial ?_;refine rl0 (gy rfl rfl rfl rfl rfl rfl) rfl rfl (step_unOp (c := .bool true) rfl (ev_mk rfl) (fun _ => rfl)) trivial ?_;refine rl0 (gn rfl) rfl rfl (step_pick rfl (ev_mk rfl) (ev_mk rfl)) trivial ?_;refine rl0 (gn rfl) rfl rfl (step_mv rfl rfl) trivial ?_;refine rl0 (gy rfl rfl rfl rfl rfl rfl) rfl rfl (step_mv rfl rfl) trivial ?_;refine rl_eql (gy rfl rfl rfl rfl rfl rfl) rfl rfl rfl rfl rfl (fun h8 => ?_) (fun h8 => ?_)
  rotate_left
  · exact t_42
  refine rl0 (gn rfl) rfl rfl (step_pick rfl (ev_mk rfl) (ev_mk rfl)) trivial ?_;refine rl0 (gn rfl) rfl rfl (step_mv rfl rfl) trivial ?_;refine rl0 (gy rfl rfl rfl rfl rfl rfl) rfl rfl (step_mv rfl rfl) trivial ?_;refine rl0 (gy rfl rfl rfl rfl rfl rfl) rfl rfl (step_mv rfl rfl) trivial ?_;refine rl0 (gy rfl rfl rfl rfl rfl rfl) rfl rfl (step_callc rfl Try.func27 rfl rfl rfl (forced_c (n + 2) (n + 0) (n + 5) (n + 4) 1 10 4 tq3 lg3 ((2 : Int) + 1) ⟨by omega, by omega, by omega, by omega, by decide⟩) t_8) ⟨t_0, trivial⟩ ?_;refine rl_know (d := 121) (c := true) rfl (by decide) ?_;refine rl0 (gn rfl) rfl rfl (step_pick rfl (ev_mk rfl) (ev_mk rfl)) trivial ?_;refine rl0 (gn rfl) rfl rfl (step_mv rfl rfl) trivial ?_;refine rl0 (gy rfl rfl rfl rfl rfl rfl) rfl rfl (step_mv rfl rfl) trivial ?_;refine rl0 (gy rfl rfl rfl rfl rfl rfl) rfl rfl (step_callc rfl Try.func29 rfl rfl rfl (used_c (n + 2) (n + 0) (n + 5) (n + 4) 1 10 4 tq3 lg3 ⟨by omega, by omega, by omega, by omega, by decide⟩) t_8) ⟨t_0, trivial⟩ ?_;refine rl_eql (gy rfl rfl rfl rfl rfl rfl) rfl rfl rfl rfl rfl (fun h9 => ?_) (fun h9 => ?_)
  rotate_left
  · exact t_42
  refine rl0 (gn rfl) rfl rfl (step_pick rfl (ev_mk rfl) (ev_mk rfl)) trivial ?_;refine rl0 (gn rfl) rfl rfl (step_mv rfl rfl) trivial ?_;refine rl0 (gy rfl rfl rfl rfl rfl rfl) rfl rfl (step_mv rfl rfl) trivial ?_;refine rl0 (gy rfl rfl rfl rfl rfl rfl) rfl rfl (step_callc rfl Try.func20 rfl rfl rfl (wleft_c (n + 2) (n + 0) (n + 5) (n + 4) 1 10 4 tq3 lg3 ⟨by omega, by omega, by omega, by omega, by decide⟩) t_8) ⟨t_0, trivial⟩ ?_;refine rl_eql (gy rfl rfl rfl rfl rfl rfl) rfl rfl rfl rfl rfl (fun h10 => ?_) (fun h10 => ?_)
  rotate_left
  · exact t_42
  refine rl0 (gn rfl) rfl rfl (step_pick rfl (ev_mk rfl) (ev_mk rfl)) trivial ?_;refine rl0 (gn rfl) rfl rfl (step_mv rfl rfl) trivial ?_;refine rl0 (gy rfl rfl rfl rfl rfl rfl) rfl rfl (step_mv rfl rfl) trivial ?_;refine rl0 (gy rfl rfl rfl rfl rfl rfl) rfl rfl (step_callc rfl Try.func30 rfl rfl rfl (next_c (n + 2) (n + 0) (n + 5) (n + 4) 1 10 4 tq3 lg3 ⟨by omega, by omega, by omega, by omega, by decide⟩) t_8) ⟨t_0, trivial⟩ ?_;refine rl_eql (gy rfl rfl rfl rfl rfl rfl) rfl rfl rfl rfl rfl (fun h11 => ?_) (fun h11 => ?_)
  rotate_left
  · exact t_42
  refine rl0 (gn rfl) rfl rfl (step_pick rfl (ev_mk rfl) (ev_mk rfl)) trivial ?_;refine rl0 (gn rfl) rfl rfl (step_mv rfl rfl) trivial ?_;refine rl0 (gy rfl rfl rfl rfl rfl rfl) rfl rfl (step_mv rfl rfl) trivial ?_;refine rl_eql (gy rfl rfl rfl rfl rfl rfl) rfl rfl rfl rfl rfl (fun h12 => ?_) (fun h12 => ?_)
  rotate_left
  · exact t_42
  refine rl0 (gn rfl) rfl rfl (step_pick rfl (ev_mk rfl) (ev_mk rfl)) trivial ?_;refine rl0 (gn rfl) rfl rfl (step_mv rfl rfl) trivial ?_;refine rl0 (gy rfl rfl rfl rfl rfl rfl) rfl rfl (step_mv rfl rfl) trivial ?_;refine rl0 (gy rfl rfl rfl rfl rfl rfl) rfl rfl (step_callc rfl Try.func31 rfl rfl rfl (all_c (n + 6) (n + 0) (n + 8) (n + 7) 1 10 (off lg2 2) [] (lg2.take 2) ⟨by omega, by omega, by omega, by simp, by omega⟩) t_8) ⟨t_0, trivial⟩ ?_;refine rl0 (gy rfl rfl rfl rfl rfl rfl) rfl rfl (step_len (m := 2) rfl rfl (ev_mk rfl) (.inl ⟨⟨_, Try.underlying24⟩, .inl ⟨_, _, .inl rfl, rfl⟩⟩)) trivial ?_;refine rl_eql (gy rfl rfl rfl rfl rfl rfl) rfl rfl rfl rfl rfl (fun h13 => ?_) (fun h13 => ?_)
  rotate_left
  · exact t_42
  refine rl0 (gn rfl) rfl rfl (step_pick rfl (ev_mk rfl) (ev_mk rfl)) trivial ?_;refine rl0 (gn rfl) rfl rfl (step_mv rfl rfl) trivial ?_;refine rl0 (gy rfl rfl rfl rfl rfl rfl) rfl rfl (step_mv rfl rfl) trivial ?_;refine rl0 (gn rfl) rfl rfl (step_pick rfl (ev_mk rfl) (ev_mk rfl)) trivial ?_;refine rl0 (gn rfl) rfl rfl (step_mv rfl rfl) trivial ?_;refine rl0 (gy rfl rfl rfl rfl rfl rfl) rfl rfl (step_fieldAddr (off := 1) rfl (ev_mk rfl) Try.underlying40 rfl F.sz3 rfl) trivial ?_;refine' rl0 (gy rfl rfl rfl rfl rfl rfl) rfl rfl (step_load_one rfl (ev_mk rfl) F.one3 ?hv) ⟨?hb, trivial⟩ ?_
  case hb => exact t_0
  case hv => rfl
  refine rl_eql (gy rfl rfl rfl rfl rfl rfl) rfl rfl rfl rfl rfl (fun h14 => ?_) (fun h14 => ?_)
  rotate_left
  · exact False.elim (by exact h14 rfl)
  refine rl0 (gn rfl) rfl rfl (step_pick rfl (ev_mk rfl) (ev_mk rfl)) trivial ?_;refine rl0 (gn rfl) rfl rfl (step_mv rfl rfl) trivial ?_;refine rl0 (gy rfl rfl rfl rfl rfl rfl) rfl rfl (step_mv rfl rfl) trivial ?_;refine rl0 (gy rfl rfl rfl rfl rfl rfl) rfl rfl (step_unOp (c := .bool true) rfl (ev_mk rfl) (fun _ => rfl)) trivial ?_;refine rl0 (gn rfl) rfl rfl (step_pick rfl (ev_mk rfl) (ev_mk rfl)) trivial ?_;refine rl0 (gn rfl) rfl rfl (step_mv rfl rfl) trivial ?_;refine rl0 (gy rfl rfl rfl rfl rfl rfl) rfl rfl (step_mv rfl rfl) trivial ?_;refine' rl0 (gy rfl rfl rfl rfl rfl rfl) rfl rfl (step_index rfl (ev_mk rfl) (.inl rfl) (ev_mk rfl) Try.underlying27 F.sz47 (by omega) ?hr) trivial ?_
  case hr => exact t_31
  refine' rl0 (gy rfl rfl rfl rfl rfl rfl) rfl rfl (step_index_ro rfl (ev_mk rfl) (ev_mk rfl) Try.underlying47 F.sz5 (by omega) (by omega) ?hr) trivial ?_
  case hr => (rw [zz_0]; exact mkS_b8)
  refine rl0 (gy rfl rfl rfl rfl rfl rfl) rfl rfl (step_load_ro rfl (ev_mk rfl) F.one5 rfl) trivial ?_;refine rl_eql (gy rfl rfl rfl rfl rfl rfl) rfl rfl rfl rfl rfl (fun h15 => ?_) (fun h15 => ?_)
  rotate_left
  · exact False.elim (by exact h15 (by decide +kernel))
  refine rl0 (gn rfl) rfl rfl (step_pick rfl (ev_mk rfl) (ev_mk rfl)) trivial ?_;refine rl0 (gn rfl) rfl rfl (step_mv rfl rfl) trivial ?_;refine rl0 (gy rfl rfl rfl rfl rfl rfl) rfl rfl (step_mv rfl rfl) trivial ?_;refine' rl0 (gy rfl rfl rfl rfl rfl rfl) rfl rfl (step_index rfl (ev_mk rfl) (.inl rfl) (ev_mk rfl) Try.underlying27 F.sz47 (by omega) ?hr) trivial ?_
  case hr => exact t_31
  refine' rl0 (gy rfl rfl rfl rfl rfl rfl) rfl rfl (step_index_ro rfl (ev_mk rfl) (ev_mk rfl) Try.underlying47 F.sz5 (by omega) (by omega) ?hr) trivial ?_
  case hr => (rw [zz_1]; exact mkS_b8)
  refine rl0 (gy rfl rfl rfl rfl rfl rfl) rfl rfl (step_load_ro rfl (ev_mk rfl) F.one5 rfl) trivial ?_;refine rl_eql (gy rfl rfl rfl rfl rfl rfl) rfl rfl rfl rfl rfl (fun h16 => ?_) (fun h16 => ?_)
  rotate_left
  · exact False.elim (by exact h16 (by decide +kernel))
  refine rl0 (gn rfl) rfl rfl (step_pick rfl (ev_mk rfl) (ev_mk rfl)) trivial ?_;refine rl0 (gn rfl) rfl rfl (step_mv rfl rfl) trivial ?_;refine rl0 (gy rfl rfl rfl rfl rfl rfl) rfl rfl (step_mv rfl rfl) trivial ?_;refine' rl0 (gy rfl rfl rfl rfl rfl rfl) rfl rfl (step_index rfl (ev_mk rfl) (.inl rfl) (ev_mk rfl) Try.underlying27 F.sz47 (by omega) ?hr) trivial ?_
  case hr => exact t_31
  refine' rl0 (gy rfl rfl rfl rfl rfl rfl) rfl rfl (step_index_ro rfl (ev_mk rfl) (ev_mk rfl) Try.underlying47 F.sz5 (by omega) (by omega) ?hr) trivial ?_
  case hr => (rw [zz_1]; exact mkS_b9)
  refine rl0 (gy rfl rfl rfl rfl rfl rfl) rfl rfl (step_load_ro rfl (ev_mk rfl) F.one5 rfl) trivial ?_;refine rl_eql (gy rfl rfl rfl rfl rfl rfl) rfl rfl rfl rfl rfl (fun h17 => ?_) (fun h17 => ?_)
  rotate_left
  · exact False.elim (by exact h17 (by decide +kernel))
  refine rl0 (gn rfl) rfl rfl (step_pick rfl (ev_mk rfl) (ev_mk rfl)) trivial ?_;refine rl0 (gn rfl) rfl rfl (step_mv rfl rfl) trivial ?_;refine rl0 (gy rfl rfl rfl rfl rfl rfl) rfl rfl (step_mv rfl rfl) trivial ?_;refine' rl0 (gy rfl rfl rfl rfl rfl rfl) rfl rfl (step_index rfl (ev_mk rfl) (.inl rfl) (ev_mk rfl) Try.underlying27 F.sz47 (by omega) ?hr) trivial ?_
  case hr => exact t_31
  refine' rl0 (gy rfl rfl rfl rfl rfl rfl) rfl rfl (step_index_ro rfl (ev_mk rfl) (ev_mk rfl) Try.underlying47 F.sz5 (by omega) (by omega) ?hr) trivial ?_
  case hr => (rw [zz_1]; exact mkS_lo (j := 7) (by omega))
  refine rl0 (gy rfl rfl rfl rfl rfl rfl) rfl rfl (step_load_ro rfl (ev_mk rfl) F.one5 rfl) trivial ?_;refine rl_eql (gy rfl rfl rfl rfl rfl rfl) rfl rfl rfl rfl rfl (fun h18 => ?_) (fun h18 => ?_)
  rotate_left
  · exact False.elim (by exact h18 (by decide +kernel))
  refine rl0 (gn rfl) rfl rfl (step_pick rfl (ev_mk rfl) (ev_mk rfl)) trivial ?_;refine rl0 (gn rfl) rfl rfl (step_mv rfl rfl) trivial ?_;refine rl0 (gy rfl rfl rfl rfl rfl rfl) rfl rfl (step_callc rfl Try.func10 rfl rfl rfl (sectors_c (List.replicate 54 0) (by simp)) t_8) trivial ?_;refine rl_eql (gy rfl rfl rfl rfl rfl rfl) rfl rfl rfl rfl rfl (fun h19 => ?_) (fun h19 => ?_)
  rotate_left
  · exact False.elim (by exact h19 (by decide +kernel))
  refine rl0 (gn rfl) rfl rfl (step_pick rfl (ev_mk rfl) (ev_mk rfl)) trivial ?_;refine rl0 (gn rfl) rfl rfl (step_mv rfl rfl) trivial ?_;refine rl0 (gy rfl rfl rfl rfl rfl rfl) rfl rfl (step_mv rfl rfl) trivial ?_;refine rl0 (gy rfl rfl rfl rfl rfl rfl) rfl rfl (step_len (m := 0) rfl rfl (ev_mk rfl) (.inl ⟨⟨_, Try.underlying24⟩, .inl ⟨_, _, .inr (.inr ⟨_, rfl⟩), rfl⟩⟩)) trivial ?_;refine rl_eql (gy rfl rfl rfl rfl rfl rfl) rfl rfl rfl rfl rfl (fun h20 => ?_) (fun h20 => ?_)
  rotate_left
  · exact t_42
  refine rl0 (gn rfl) rfl rfl (step_pick rfl (ev_mk rfl) (ev_mk rfl)) trivial ?_;refine rl0 (gn rfl) rfl rfl (step_mv rfl rfl) trivial ?_;refine rl0 (gy rfl rfl rfl rfl rfl rfl) rfl rfl (step_mv rfl rfl) trivial ?_;refine rl_eql (gy rfl rfl rfl rfl rfl rfl) rfl rfl rfl rfl rfl (fun h21 => ?_) (fun h21 => ?_)
  rotate_left
  · exact False.elim (by exact h21 rfl)
  refine rl0 (gn rfl) rfl rfl (step_pick rfl (ev_mk rfl) (ev_mk rfl)) trivial ?_;refine rl0 (gn rfl) rfl rfl (step_as rfl rfl) trivial ?_;refine runsL_nil ?_;refine runs_ret ?_;refine ⟨t_17, fin_mkg (rest rfl res0) ?_ ?_ ?_ ?_ ?_⟩
  · exact t_2
  · exact t_1
  · exact t_142
  · exact t_45
  · exact t_1
end Go.Proofs.Ytdmkhpnjjpeeaaa
