import Derived.Test.YtdmkhpnjjpeeaaaKcQq
import Derived.Test.YtdmkhpnjjpeeaaaKcWa
import Derived.Test.YtdmkhpnjjpeeaaaKcWc
import Derived.Test.YtdmkhpnjjpeeaaaKcWd
import Derived.Test.YtdmkhpnjjpeeaaaKcWe
import Derived.Test.YtdmkhpnjjpeeaaaKcVmT
import Derived.Test.YtdmkhpnjjpeeaaaKcVmP
namespace Go.Proofs.Ytdmkhpnjjpeeaaa
open Go.Vm
set_option linter.unusedVariables false
set_option linter.unusedSimpArgs false
structure Rc where
  id : Int
  key : Int
  x : Int
  y : Int
  val : ByteArray
  gh : Bool
structure Im where
  n : Int
  p : List Int
instance : Inhabited Im := ⟨⟨0, List.replicate 224 0⟩⟩
structure En where
  lsn : Int
  kind : Int
  txn : Int
  prev : Int
  next : Int
  r : Rc
  pages : List Im
  act : List Int
def imR (m : Im) : List V := .sc (.int .i64 m.n) :: m.p.map bV
def acR (a : Int) : List V := [.sc (.int .u64 a)]
abbrev rcC (r : Rc) : List V := [.sc (.int .u64 r.id), .sc (.int .u64 r.key), .sc (.int .u32 r.x), .sc (.int .u32 r.y), .sc (.string r.val), .sc (.bool r.gh)]
abbrev enC (e : En) : List V := [.sc (.int .u64 e.lsn), .sc (.int .i64 e.kind), .sc (.int .u64 e.txn), .sc (.int .u64 e.prev), .sc (.int .u64 e.next), .sc (.int .u64 e.r.id), .sc (.int .u64 e.r.key), .sc (.int .u32 e.r.x), .sc (.int .u32 e.r.y), .sc (.string e.r.val), .sc (.bool e.r.gh), .sl 225 (e.pages.map imR), .sl 1 (e.act.map acR)]
def ligF (e : En) : Int := if e.r.val.size > 100 ∨ e.pages.length > 40 ∨ e.act.length > 100 then 1 else 0
def okRc (r : Rc) : Prop := U64 r.id ∧ U64 r.key ∧ U32 r.x ∧ U32 r.y
def recB (r : Rc) : List Int := beB 8 r.id ++ beB 8 r.key ++ beB 4 r.x ++ beB 4 r.y ++ [if r.gh = true then 1 else 0]
set_option maxRecDepth 100000 in
set_option maxHeartbeats 4000000 in
theorem light_c (e : En) (hL : (e.pages.length : Int) ≤ 9223372036854775807 ∧ (e.act.length : Int) ≤ 9223372036854775807) : Does Try.prog 11 [.agg (enC e)] [] [] (.sc (.int .i64 (ligF e))) := by
  refine does_mkg 40 Try.func11 rfl rfl rfl (fun n B bx hd hpre hup hvs hbx hgx => ?_);refine runs_seq ?_;refine runs_region ?_;refine rl1 (gn rfl) rfl rfl (step_box_agg (k := n + 0) rfl rfl) ⟨t_0, trivial⟩ (by omega) ?_;refine rl0 (gn rfl) rfl rfl (step_as rfl rfl) trivial ?_;refine runsL_nil ?_;refine runs_seq ?_;refine runs_seq ?_;refine runs_region ?_;refine rl0 (gn rfl) rfl rfl (step_fieldAddr (off := 5) rfl (ev_mk rfl) Try.underlying40 rfl F.sz36 rfl) trivial ?_;refine rl0 (gn rfl) rfl rfl (step_fieldAddr (off := 4) rfl (ev_mk rfl) Try.underlying36 rfl F.sz9 rfl) trivial ?_;refine' rl0 (gn rfl) rfl rfl (step_load_one rfl (ev_mk rfl) F.one9 ?hv) ⟨?hb, trivial⟩ ?_
  case hb => exact t_0
  case hv => rfl
  refine rl0 (gn rfl) rfl rfl (step_len rfl rfl (ev_mk rfl) (.inr (.inl ⟨Try.underlying9, _, rfl, rfl⟩))) trivial ?_;refine rl_gtr (gn rfl) rfl rfl rfl rfl rfl (fun h1 => ?_) (fun h1 => ?_)
  · skip
    refine rl0 (gn rfl) rfl rfl (step_mv rfl rfl) trivial ?_;refine rlk rfl rfl rfl rfl rfl (ngb rfl rfl) rfl rfl ?_;refine rlk rfl rfl rfl rfl rfl (ngb rfl rfl) rfl rfl ?_;refine rlk rfl rfl rfl rfl rfl (ngb rfl rfl) rfl rfl ?_;refine rlk rfl rfl rfl rfl rfl (ngb rfl rfl) rfl rfl ?_;refine rl0 (gn rfl) rfl rfl (step_pick rfl (ev_mk rfl) (ev_mk rfl)) trivial ?_;refine rl0 (gn rfl) rfl rfl (step_mv rfl rfl) trivial ?_;refine rlk rfl rfl rfl rfl rfl (ngb rfl rfl) rfl rfl ?_;refine rlk rfl rfl rfl rfl rfl (ngb rfl rfl) rfl rfl ?_;refine rlk rfl rfl rfl rfl rfl (ngb rfl rfl) rfl rfl ?_;refine rlk rfl rfl rfl rfl rfl (ngb rfl rfl) rfl rfl ?_;refine rl0 (gn rfl) rfl rfl (step_pick rfl (ev_mk rfl) (ev_mk rfl)) trivial ?_;refine runsL_nil ?_;refine runs_cond true (ev_mk rfl) (fun _ => ?_) (fun h_ => nomatch h_);refine runs_seq ?_;refine runs_region ?_;refine rl0 (gn rfl) rfl rfl (step_as rfl rfl) trivial ?_;refine runsL_nil ?_;refine runs_ret ?_;refine ⟨t_17, fin_mkg (rest rfl res0) ?_ ?_ ?_ ?_ ?_⟩
    · exact t_44
    · exact t_1
    · exact t_142
    · exact t_45
    · exact t_1
  · skip
    refine rl0 (gn rfl) rfl rfl (step_mv rfl rfl) trivial ?_;refine rl0 (gy rfl rfl rfl rfl rfl rfl) rfl rfl (step_fieldAddr (off := 11) rfl (ev_mk rfl) Try.underlying40 rfl F.sz37 rfl) trivial ?_;refine' rl0 (gy rfl rfl rfl rfl rfl rfl) rfl rfl (step_load_one rfl (ev_mk rfl) F.one37 ?hv) ⟨?hb, trivial⟩ ?_
    case hb => exact t_0
    case hv => rfl
    refine rl0 (gy rfl rfl rfl rfl rfl rfl) rfl rfl (step_len (m := e.pages.length) rfl rfl (ev_mk rfl) (.inl ⟨⟨_, Try.underlying37⟩, .inl ⟨_, _, .inl rfl, List.length_map _⟩⟩)) trivial ?_;refine rl_gtr (gy rfl rfl rfl rfl rfl rfl) rfl rfl rfl rfl rfl (fun h2 => ?_) (fun h2 => ?_)
    · skip
      refine rl0 (gn rfl) rfl rfl (step_pick rfl (ev_mk rfl) (ev_mk rfl)) trivial ?_;refine rl0 (gn rfl) rfl rfl (step_mv rfl rfl) trivial ?_;refine rlk rfl rfl rfl rfl rfl (ngb rfl rfl) rfl rfl ?_;refine rlk rfl rfl rfl rfl rfl (ngb rfl rfl) rfl rfl ?_;refine rlk rfl rfl rfl rfl rfl (ngb rfl rfl) rfl rfl ?_;refine rlk rfl rfl rfl rfl rfl (ngb rfl rfl) rfl rfl ?_;refine rl0 (gn rfl) rfl rfl (step_pick rfl (ev_mk rfl) (ev_mk rfl)) trivial ?_;refine runsL_nil ?_;refine runs_cond true (ev_mk rfl) (fun _ => ?_) (fun h_ => nomatch h_);refine runs_seq ?_;refine runs_region ?_;refine rl0 (gn rfl) rfl rfl (step_as rfl rfl) trivial ?_;refine runsL_nil ?_;refine runs_ret ?_;refine ⟨t_17, fin_mkg (rest rfl res0) ?_ ?_ ?_ ?_ ?_⟩
      · exact t_44
      · exact t_1
      · exact t_142
      · exact t_45
      · exact t_1
    · skip
      refine rl0 (gn rfl) rfl rfl (step_pick rfl (ev_mk rfl) (ev_mk rfl)) trivial ?_;refine rl0 (gn rfl) rfl rfl (step_mv rfl rfl) trivial ?_;refine rl0 (gy rfl rfl rfl rfl rfl rfl) rfl rfl (step_fieldAddr (off := 12) rfl (ev_mk rfl) Try.underlying40 rfl F.sz38 rfl) trivial ?_;refine' rl0 (gy rfl rfl rfl rfl rfl rfl) rfl rfl (step_load_one rfl (ev_mk rfl) F.one38 ?hv) ⟨?hb, trivial⟩ ?_
      case hb => exact t_0
      case hv => rfl
      refine rl0 (gy rfl rfl rfl rfl rfl rfl) rfl rfl (step_len (m := e.act.length) rfl rfl (ev_mk rfl) (.inl ⟨⟨_, Try.underlying38⟩, .inl ⟨_, _, .inl rfl, List.length_map _⟩⟩)) trivial ?_;refine rl_gtr (gy rfl rfl rfl rfl rfl rfl) rfl rfl rfl rfl rfl (fun h3 => ?_) (fun h3 => ?_)
      · skip
        refine rl0 (gn rfl) rfl rfl (step_pick rfl (ev_mk rfl) (ev_mk rfl)) trivial ?_;refine runsL_nil ?_;refine runs_cond true (ev_mk rfl) (fun _ => ?_) (fun h_ => nomatch h_);refine runs_seq ?_;refine runs_region ?_;refine rl0 (gn rfl) rfl rfl (step_as rfl rfl) trivial ?_;refine runsL_nil ?_;refine runs_ret ?_;refine ⟨t_17, fin_mkg (rest rfl res0) ?_ ?_ ?_ ?_ ?_⟩
        · exact t_44
        · exact t_1
        · exact t_142
        · exact t_45
        · exact t_1
      · skip
        refine rl0 (gn rfl) rfl rfl (step_pick rfl (ev_mk rfl) (ev_mk rfl)) trivial ?_;refine runsL_nil ?_;refine runs_cond false (ev_mk rfl) (fun h_ => nomatch h_) (fun _ => ?_);refine runs_skip ?_;refine runs_seq ?_;refine runs_region ?_;refine rl0 (gn rfl) rfl rfl (step_as rfl rfl) trivial ?_;refine runsL_nil ?_;refine runs_ret ?_;refine ⟨t_17, fin_mkg (rest rfl res0) ?_ ?_ ?_ ?_ ?_⟩
        · exact t_44
        · exact t_1
        · exact t_142
        · exact t_45
        · exact t_1
attribute [local irreducible] Go.Vm.beB Go.Vm.fieldB
theorem bytesV_snoc (xs : List Int) (x : Int) : bytesV (xs ++ [x]) = bytesV xs ++ [[.sc (.int .u8 x)]] := by simp [bytesV, bV]
def recF (r : Rc) : List Int := recB r ++ fieldB r.val 16
theorem recF_t {r : Rc} (h : r.gh = true) : recF r = beB 8 r.id ++ beB 8 r.key ++ beB 4 r.x ++ beB 4 r.y ++ [1] ++ fieldB r.val 16 := by unfold recF recB; rw [if_pos h]
theorem recF_f {r : Rc} (h : r.gh = false) : recF r = beB 8 r.id ++ beB 8 r.key ++ beB 4 r.x ++ beB 4 r.y ++ [0] ++ fieldB r.val 16 := by unfold recF recB; rw [if_neg (by rw [h]; simp)]
set_option maxRecDepth 100000 in
set_option maxHeartbeats 4000000 in
theorem rec_c (r : Rc) (hr : okRc r) (hv : r.val.size < 16) : Does Try.prog 62 [.agg (rcC r)] [] [] (.sl 1 (bytesV (recF r))) := by
  refine does_mkg 40 Try.func62 rfl rfl rfl (fun n B bx hd hpre hup hvs hbx hgx => ?_);refine runs_seq ?_;refine runs_region ?_;refine rl1 (gn rfl) rfl rfl (step_box_agg (k := n + 0) rfl rfl) ⟨t_0, trivial⟩ (by omega) ?_;refine rl0 (gn rfl) rfl rfl (step_as rfl rfl) trivial ?_;refine runsL_nil ?_;refine runs_seq ?_;refine runs_draw (by kernel_rfl) (by kernel_rfl) (by kernel_rfl) ?_;refine dl0 (gn rfl) rfl rfl (step_fieldAddr (off := 0) rfl (ev_mk rfl) Try.underlying36 rfl F.sz33 rfl) trivial ?_;refine' dl0 (gn rfl) rfl rfl (step_load_one rfl (ev_mk rfl) F.one33 ?hv) ⟨?hb, trivial⟩ ?_
  case hb => exact t_0
  case hv => rfl
  refine dl0 (gn rfl) rfl rfl (step_callc rfl Try.func32 rfl rfl rfl (wput_c [] r.id hr.1 8 (by omega) (by simp [beB_len])) t_29) trivial ?_;refine dl0 (gn rfl) rfl rfl (step_fieldAddr (off := 1) rfl (ev_mk rfl) Try.underlying36 rfl F.sz33 rfl) trivial ?_;refine' dl0 (gn rfl) rfl rfl (step_load_one rfl (ev_mk rfl) F.one33 ?hv) ⟨?hb, trivial⟩ ?_
  case hb => exact t_0
  case hv => rfl
  refine dl0 (gn rfl) rfl rfl (step_callc rfl Try.func32 rfl rfl rfl (wput_c (beB 8 r.id) r.key hr.2.1 8 (by omega) (by simp [beB_len])) t_29) trivial ?_;refine dl0 (gn rfl) rfl rfl (step_as rfl rfl) trivial ?_;refine dlnil ?_ ?_
  · exact t_12
  refine runs_seq ?_;refine runs_draw (by kernel_rfl) (by kernel_rfl) (by kernel_rfl) ?_;refine dl0 (gn rfl) rfl rfl (step_mv rfl rfl) trivial ?_;refine dl0 (gn rfl) rfl rfl (step_fieldAddr (off := 2) rfl (ev_mk rfl) Try.underlying36 rfl F.sz34 rfl) trivial ?_;refine' dl0 (gn rfl) rfl rfl (step_load_one rfl (ev_mk rfl) F.one34 ?hv) ⟨?hb, trivial⟩ ?_
  case hb => exact t_0
  case hv => rfl
  refine dl0 (gn rfl) rfl rfl (step_callc rfl Try.func68 rfl rfl rfl (wput4_c (beB 8 r.id ++ beB 8 r.key) r.x hr.2.2.1 4 (by omega) (by simp [beB_len])) t_29) trivial ?_;refine dl0 (gn rfl) rfl rfl (step_fieldAddr (off := 3) rfl (ev_mk rfl) Try.underlying36 rfl F.sz34 rfl) trivial ?_;refine' dl0 (gn rfl) rfl rfl (step_load_one rfl (ev_mk rfl) F.one34 ?hv) ⟨?hb, trivial⟩ ?_
  case hb => exact t_0
  case hv => rfl
  refine dl1 (gn rfl) rfl rfl (step_callc rfl Try.func68 rfl rfl rfl (wput4_o (beB 8 r.id ++ beB 8 r.key ++ beB 4 r.x) r.y hr.2.2.2 4 (by omega) (by simp [beB_len]) (n + 1)) t_29) ⟨t_0, trivial⟩ (by omega) ?_;refine dl0 (gn rfl) rfl rfl (step_as rfl rfl) trivial ?_;refine dlnil ?_ ?_
  · exact t_12
  refine runs_seq ?_;refine runs_region ?_;refine rl0 (gn rfl) rfl rfl (step_as rfl rfl) trivial ?_;refine runsL_nil ?_;refine runs_seq ?_;refine runs_seq ?_;refine runs_region ?_;refine rl0 (gn rfl) rfl rfl (step_fieldAddr (off := 5) rfl (ev_mk rfl) Try.underlying36 rfl F.sz4 rfl) trivial ?_;refine' rl0 (gn rfl) rfl rfl (step_load_one rfl (ev_mk rfl) F.one4 ?hv) ⟨?hb, trivial⟩ ?_
  case hb => exact t_0
  case hv => rfl
  refine runsL_nil ?_;refine runs_cond _ (ev_mk rfl) (fun h1 => ?_) (fun h1 => ?_)
  · skip
    refine runs_region ?_;refine rl0 (gn rfl) rfl rfl (step_as rfl rfl) trivial ?_;refine runsL_nil ?_;refine runs_seq ?_;refine runs_draw (by kernel_rfl) (by kernel_rfl) (by kernel_rfl) ?_;refine dl0 (gn rfl) rfl rfl (step_mv rfl rfl) trivial ?_;refine dl0 (gn rfl) rfl rfl (step_mv rfl rfl) trivial ?_;refine dl0 (gn rfl) rfl rfl (step_lit rfl Try.underlying22 F.sz5 F.zero5 t_33 t_139 (by decide) rfl rfl t_21 rfl) trivial ?_;refine' dl1 (gn rfl) rfl rfl (step_append_own rfl rfl rfl Try.underlying22 ⟨_, Try.underlying22, fun k_ => t_49⟩ F.el5 (ev_mk rfl) (ev_mk rfl) (gives_sl (.inr (.inl rfl))) ?hg) ⟨?hb, trivial⟩ (by omega) ?_
    case hb => exact t_0
    case hg => first | (simp [bytesV, beB_len]; done) | (simp [bytesV, beB_len]; omega) | omega
    refine dl0 (gn rfl) rfl rfl (step_fieldAddr (off := 4) rfl (ev_mk rfl) Try.underlying36 rfl F.sz9 rfl) trivial ?_;refine' dl0 (gn rfl) rfl rfl (step_load_one rfl (ev_mk rfl) F.one9 ?hv) ⟨?hb, trivial⟩ ?_
    case hb => exact t_0
    case hv => rfl
    refine dl0 (gn rfl) rfl rfl (step_callc rfl Try.func69 rfl rfl rfl (text_c ((beB 8 r.id ++ beB 8 r.key ++ beB 4 r.x) ++ beB 4 r.y ++ [1]) (by simp [beB_len]) r.val 16 (by omega) (by omega) hv) t_29) trivial ?_;refine dl0 (gn rfl) rfl rfl (step_mv rfl rfl) trivial ?_;refine dl0 (gn rfl) rfl rfl (step_extract rfl (ev_mk rfl) rfl) trivial ?_;refine dl0 (gn rfl) rfl rfl (step_extract rfl (ev_mk rfl) rfl) trivial ?_;refine dl0 (gn rfl) rfl rfl (step_as rfl rfl) trivial ?_;refine dlnil ?_ ?_
    · exact t_12
    refine runs_seq ?_;refine runs_region ?_;refine rl0 (gn rfl) rfl rfl (step_mv rfl rfl) trivial ?_;refine rl0 (gn rfl) rfl rfl (step_as rfl rfl) trivial ?_;refine runsL_nil ?_;refine runs_ret ?_
    first | (have hg_ := recF_t (r := r) (by assumption)) | (have hg_ := recF_f (r := r) (by assumption))
    refine ⟨t_17, fin_mkg (rest rfl res0) ?_ ?_ ?_ ?_ ?_⟩
    · exact t_89
    · exact t_1
    · exact t_142
    · exact t_45
    · exact t_1
  · skip
    refine runs_skip ?_;refine runs_seq ?_;refine runs_draw (by kernel_rfl) (by kernel_rfl) (by kernel_rfl) ?_;refine dl0 (gn rfl) rfl rfl (step_mv rfl rfl) trivial ?_;refine dl0 (gn rfl) rfl rfl (step_mv rfl rfl) trivial ?_;refine dl0 (gn rfl) rfl rfl (step_lit rfl Try.underlying22 F.sz5 F.zero5 t_33 t_139 (by decide) rfl rfl t_21 rfl) trivial ?_;refine' dl1 (gn rfl) rfl rfl (step_append_own rfl rfl rfl Try.underlying22 ⟨_, Try.underlying22, fun k_ => t_49⟩ F.el5 (ev_mk rfl) (ev_mk rfl) (gives_sl (.inr (.inl rfl))) ?hg) ⟨?hb, trivial⟩ (by omega) ?_
    case hb => exact t_0
    case hg => first | (simp [bytesV, beB_len]; done) | (simp [bytesV, beB_len]; omega) | omega
    refine dl0 (gn rfl) rfl rfl (step_fieldAddr (off := 4) rfl (ev_mk rfl) Try.underlying36 rfl F.sz9 rfl) trivial ?_;refine' dl0 (gn rfl) rfl rfl (step_load_one rfl (ev_mk rfl) F.one9 ?hv) ⟨?hb, trivial⟩ ?_
    case hb => exact t_0
    case hv => rfl
    refine dl0 (gn rfl) rfl rfl (step_callc rfl Try.func69 rfl rfl rfl (text_c ((beB 8 r.id ++ beB 8 r.key ++ beB 4 r.x) ++ beB 4 r.y ++ [0]) (by simp [beB_len]) r.val 16 (by omega) (by omega) hv) t_29) trivial ?_;refine dl0 (gn rfl) rfl rfl (step_mv rfl rfl) trivial ?_;refine dl0 (gn rfl) rfl rfl (step_extract rfl (ev_mk rfl) rfl) trivial ?_;refine dl0 (gn rfl) rfl rfl (step_extract rfl (ev_mk rfl) rfl) trivial ?_;refine dl0 (gn rfl) rfl rfl (step_as rfl rfl) trivial ?_;refine dlnil ?_ ?_
    · exact t_12
    refine runs_seq ?_;refine runs_region ?_;refine rl0 (gn rfl) rfl rfl (step_mv rfl rfl) trivial ?_;refine rl0 (gn rfl) rfl rfl (step_as rfl rfl) trivial ?_;refine runsL_nil ?_;refine runs_ret ?_
    first | (have hg_ := recF_t (r := r) (by assumption)) | (have hg_ := recF_f (r := r) (by assumption))
    refine ⟨t_17, fin_mkg (rest rfl res0) ?_ ?_ ?_ ?_ ?_⟩
    · exact t_89
    · exact t_1
    · exact t_142
    · exact t_45
    · exact t_1
end Go.Proofs.Ytdmkhpnjjpeeaaa
namespace Go.Proofs.Ytdmkhpnjjpeeaaa
open Go.Vm
set_option linter.unusedVariables false
set_option linter.unusedSimpArgs false
attribute [local irreducible] Go.Vm.beB Go.Vm.fieldB
theorem bytesV_app (a b : List Int) : bytesV (a ++ b) = bytesV a ++ bytesV b := List.map_append
theorem bytesV_one (x : Int) : bytesV [x] = [[.sc (.int .u8 x)]] := rfl
theorem fB_len {s : ByteArray} {m : Nat} (h : s.size < m) : (fieldB s m).length = m := by unfold fieldB; have := sB_len s; simp [this]; omega
theorem p_at {p : List Int} {i q : Nat} (h : q = i) (hi : i < p.length) : (p.map bV)[q]? = some (bV (at' p (i : Int))) := by subst h; rw [at_nat _ _ hi, List.getElem?_map, List.getElem?_eq_getElem hi]; rfl
def lnz (p : List Int) : Nat → Nat
  | 0 => 0
  | j + 1 => if at' p (j : Int) ≠ 0 then j + 1 else lnz p j
theorem lnz_le (p : List Int) : ∀ j, lnz p j ≤ j
  | 0 => Nat.le_refl _
  | j + 1 => by have := lnz_le p j; unfold lnz; split <;> omega
set_option maxRecDepth 100000 in
set_option maxHeartbeats 4000000 in
theorem rrec_c (r : Rc) (hr : okRc r) (hv : r.val.size < 16) : Does Try.prog 35 [.agg (rcC r)] [] [] (.sl 1 (bytesV (recF r))) := by
  refine does_mkg 40 Try.func35 rfl rfl rfl (fun n B bx hd hpre hup hvs hbx hgx => ?_);have u1_ := hr.2.2.1;have u2_ := hr.2.2.2;unfold U32 at u1_ u2_;refine runs_seq ?_;refine runs_region ?_;refine rl1 (gn rfl) rfl rfl (step_box_agg (k := n + 0) rfl rfl) ⟨t_0, trivial⟩ (by omega) ?_;refine rl0 (gn rfl) rfl rfl (step_as rfl rfl) trivial ?_;refine runsL_nil ?_;refine runs_seq ?_;refine runs_region ?_;refine rl0 (gn rfl) rfl rfl (step_fieldAddr (off := 0) rfl (ev_mk rfl) Try.underlying36 rfl F.sz33 rfl) trivial ?_;refine' rl0 (gn rfl) rfl rfl (step_load_one rfl (ev_mk rfl) F.one33 ?hv) ⟨?hb, trivial⟩ ?_
  case hb => exact t_0
  case hv => rfl
  refine rl1 (gn rfl) rfl rfl (step_callc rfl Try.func33 rfl rfl rfl (rput_o r.id 8 (n + 1) hr.1 (by omega)) t_10) ⟨t_0, trivial⟩ (by omega) ?_;refine rl0 (gn rfl) rfl rfl (step_as rfl rfl) trivial ?_;refine runsL_nil ?_;refine runs_seq ?_;refine runs_region ?_;refine rl0 (gn rfl) rfl rfl (step_mv rfl rfl) trivial ?_;refine rl0 (gn rfl) rfl rfl (step_fieldAddr (off := 1) rfl (ev_mk rfl) Try.underlying36 rfl F.sz33 rfl) trivial ?_;refine' rl0 (gn rfl) rfl rfl (step_load_one rfl (ev_mk rfl) F.one33 ?hv) ⟨?hb, trivial⟩ ?_
  case hb => exact t_0
  case hv => rfl
  refine rl1 (gn rfl) rfl rfl (step_callc rfl Try.func33 rfl rfl rfl (rput_o r.key 8 (n + 2) hr.2.1 (by omega)) t_10) ⟨t_0, trivial⟩ (by omega) ?_;refine' rl1 (gn rfl) rfl rfl (step_append_own rfl rfl rfl Try.underlying22 ⟨_, Try.underlying22, fun k_ => t_49⟩ F.el5 (ev_mk rfl) (ev_mk rfl) (gives_sl (.inr (.inr ⟨_, rfl⟩))) ?hg) ⟨?hb, trivial⟩ (by omega) ?_
  case hb => exact t_0
  case hg => exact t_58
  refine rl0 (gn rfl) rfl rfl (step_as rfl rfl) trivial ?_;refine runsL_nil ?_;refine runs_seq ?_;refine runs_region ?_;refine rl0 (gn rfl) rfl rfl (step_mv rfl rfl) trivial ?_;refine rl0 (gn rfl) rfl rfl (step_fieldAddr (off := 2) rfl (ev_mk rfl) Try.underlying36 rfl F.sz34 rfl) trivial ?_;refine' rl0 (gn rfl) rfl rfl (step_load_one rfl (ev_mk rfl) F.one34 ?hv) ⟨?hb, trivial⟩ ?_
  case hb => exact t_0
  case hv => rfl
  refine rl0 (gn rfl) rfl rfl (step_conv_id rfl rfl Try.underlying34 Try.underlying33 (wu64 (by omega))) trivial ?_;refine rl1 (gn rfl) rfl rfl (step_callc rfl Try.func33 rfl rfl rfl (rput_o r.x 4 (n + 3) (by have h_ := hr.2.2.1; unfold U32 at h_; unfold U64; omega) (by omega)) t_10) ⟨t_0, trivial⟩ (by omega) ?_;refine' rl1 (gn rfl) rfl rfl (step_append_own rfl rfl rfl Try.underlying22 ⟨_, Try.underlying22, fun k_ => t_49⟩ F.el5 (ev_mk rfl) (ev_mk rfl) (gives_sl (.inr (.inr ⟨_, rfl⟩))) ?hg) ⟨?hb, trivial⟩ (by omega) ?_
  case hb => exact t_0
  case hg => exact t_58
  refine rl0 (gn rfl) rfl rfl (step_as rfl rfl) trivial ?_;refine runsL_nil ?_;refine runs_seq ?_;refine runs_region ?_;refine rl0 (gn rfl) rfl rfl (step_mv rfl rfl) trivial ?_;refine rl0 (gn rfl) rfl rfl (step_fieldAddr (off := 3) rfl (ev_mk rfl) Try.underlying36 rfl F.sz34 rfl) trivial ?_;refine' rl0 (gn rfl) rfl rfl (step_load_one rfl (ev_mk rfl) F.one34 ?hv) ⟨?hb, trivial⟩ ?_
  case hb => exact t_0
  case hv => rfl
  refine rl0 (gn rfl) rfl rfl (step_conv_id rfl rfl Try.underlying34 Try.underlying33 (wu64 (by omega))) trivial ?_;refine rl1 (gn rfl) rfl rfl (step_callc rfl Try.func33 rfl rfl rfl (rput_o r.y 4 (n + 4) (by have h_ := hr.2.2.2; unfold U32 at h_; unfold U64; omega) (by omega)) t_10) ⟨t_0, trivial⟩ (by omega) ?_;refine' rl1 (gn rfl) rfl rfl (step_append_own rfl rfl rfl Try.underlying22 ⟨_, Try.underlying22, fun k_ => t_49⟩ F.el5 (ev_mk rfl) (ev_mk rfl) (gives_sl (.inr (.inr ⟨_, rfl⟩))) ?hg) ⟨?hb, trivial⟩ (by omega) ?_
  case hb => exact t_0
  case hg => exact t_58
  refine rl0 (gn rfl) rfl rfl (step_as rfl rfl) trivial ?_;refine runsL_nil ?_;refine runs_seq ?_;refine runs_seq ?_;refine runs_region ?_;refine rl0 (gn rfl) rfl rfl (step_fieldAddr (off := 5) rfl (ev_mk rfl) Try.underlying36 rfl F.sz4 rfl) trivial ?_;refine' rl0 (gn rfl) rfl rfl (step_load_one rfl (ev_mk rfl) F.one4 ?hv) ⟨?hb, trivial⟩ ?_
  case hb => exact t_0
  case hv => rfl
  refine runsL_nil ?_;refine runs_cond _ (ev_mk rfl) (fun h1 => ?_) (fun h1 => ?_)
  · skip
    refine runs_region ?_;refine rl0 (gn rfl) rfl rfl (step_mv rfl rfl) trivial ?_;refine rl0 (gn rfl) rfl rfl (step_lit rfl Try.underlying22 F.sz5 F.zero5 t_33 t_139 (by decide) rfl rfl t_21 rfl) trivial ?_;refine' rl1 (gn rfl) rfl rfl (step_append_own rfl rfl rfl Try.underlying22 ⟨_, Try.underlying22, fun k_ => t_49⟩ F.el5 (ev_mk rfl) (ev_mk rfl) (gives_sl (.inr (.inl rfl))) ?hg) ⟨?hb, trivial⟩ (by omega) ?_
    case hb => exact t_0
    case hg => exact t_58
    refine rl0 (gn rfl) rfl rfl (step_as rfl rfl) trivial ?_;refine runsL_nil ?_;refine runs_seq ?_;refine runs_region ?_;refine rl0 (gn rfl) rfl rfl (step_fieldAddr (off := 4) rfl (ev_mk rfl) Try.underlying36 rfl F.sz9 rfl) trivial ?_;refine' rl0 (gn rfl) rfl rfl (step_load_one rfl (ev_mk rfl) F.one9 ?hv) ⟨?hb, trivial⟩ ?_
    case hb => exact t_0
    case hv => rfl
    refine rl0 (gn rfl) rfl rfl (step_callc rfl Try.func49 rfl rfl rfl (rtx_c r.val 16 (by omega) (by omega) hv) t_10) trivial ?_;refine rl0 (gn rfl) rfl rfl (step_mv rfl rfl) trivial ?_;refine rl0 (gn rfl) rfl rfl (step_extract rfl (ev_mk rfl) rfl) trivial ?_;refine rl0 (gn rfl) rfl rfl (step_extract rfl (ev_mk rfl) rfl) trivial ?_;refine rl0 (gn rfl) rfl rfl (step_as rfl rfl) trivial ?_;refine rl0 (gn rfl) rfl rfl (step_as rfl rfl) trivial ?_;refine runsL_nil ?_;refine runs_seq ?_;refine runs_region ?_;refine rl0 (gn rfl) rfl rfl (step_mv rfl rfl) trivial ?_;refine rl0 (gn rfl) rfl rfl (step_mv rfl rfl) trivial ?_;refine' rl1 (gn rfl) rfl rfl (step_append_own rfl rfl rfl Try.underlying22 ⟨_, Try.underlying22, fun k_ => t_49⟩ F.el5 (ev_mk rfl) (ev_mk rfl) (gives_sl (.inl rfl)) ?hg) ⟨?hb, trivial⟩ (by omega) ?_
    case hb => exact t_0
    case hg => exact t_58
    refine rl0 (gn rfl) rfl rfl (step_as rfl rfl) trivial ?_;refine runsL_nil ?_;refine runs_ret ?_
    first | (have hg_ := recF_t (r := r) (by assumption)) | (have hg_ := recF_f (r := r) (by assumption))
    refine ⟨t_17, fin_mkg (rest rfl res0) ?_ ?_ ?_ ?_ ?_⟩
    · exact t_80
    · exact t_1
    · exact t_142
    · exact t_45
    · exact t_1
  · skip
    refine runs_region ?_;refine rl0 (gn rfl) rfl rfl (step_mv rfl rfl) trivial ?_;refine rl0 (gn rfl) rfl rfl (step_lit rfl Try.underlying22 F.sz5 F.zero5 t_33 t_139 (by decide) rfl rfl t_21 rfl) trivial ?_;refine' rl1 (gn rfl) rfl rfl (step_append_own rfl rfl rfl Try.underlying22 ⟨_, Try.underlying22, fun k_ => t_49⟩ F.el5 (ev_mk rfl) (ev_mk rfl) (gives_sl (.inr (.inl rfl))) ?hg) ⟨?hb, trivial⟩ (by omega) ?_
    case hb => exact t_0
    case hg => exact t_58
    refine rl0 (gn rfl) rfl rfl (step_as rfl rfl) trivial ?_;refine runsL_nil ?_;refine runs_seq ?_;refine runs_region ?_;refine rl0 (gn rfl) rfl rfl (step_fieldAddr (off := 4) rfl (ev_mk rfl) Try.underlying36 rfl F.sz9 rfl) trivial ?_;refine' rl0 (gn rfl) rfl rfl (step_load_one rfl (ev_mk rfl) F.one9 ?hv) ⟨?hb, trivial⟩ ?_
    case hb => exact t_0
    case hv => rfl
    refine rl0 (gn rfl) rfl rfl (step_callc rfl Try.func49 rfl rfl rfl (rtx_c r.val 16 (by omega) (by omega) hv) t_10) trivial ?_;refine rl0 (gn rfl) rfl rfl (step_mv rfl rfl) trivial ?_;refine rl0 (gn rfl) rfl rfl (step_extract rfl (ev_mk rfl) rfl) trivial ?_;refine rl0 (gn rfl) rfl rfl (step_extract rfl (ev_mk rfl) rfl) trivial ?_;refine rl0 (gn rfl) rfl rfl (step_as rfl rfl) trivial ?_;refine rl0 (gn rfl) rfl rfl (step_as rfl rfl) trivial ?_;refine runsL_nil ?_;refine runs_seq ?_;refine runs_region ?_;refine rl0 (gn rfl) rfl rfl (step_mv rfl rfl) trivial ?_;refine rl0 (gn rfl) rfl rfl (step_mv rfl rfl) trivial ?_;refine' rl1 (gn rfl) rfl rfl (step_append_own rfl rfl rfl Try.underlying22 ⟨_, Try.underlying22, fun k_ => t_49⟩ F.el5 (ev_mk rfl) (ev_mk rfl) (gives_sl (.inl rfl)) ?hg) ⟨?hb, trivial⟩ (by omega) ?_
    case hb => exact t_0
    case hg => exact t_58
    refine rl0 (gn rfl) rfl rfl (step_as rfl rfl) trivial ?_;refine runsL_nil ?_;refine runs_ret ?_
    first | (have hg_ := recF_t (r := r) (by assumption)) | (have hg_ := recF_f (r := r) (by assumption))
    refine ⟨t_17, fin_mkg (rest rfl res0) ?_ ?_ ?_ ?_ ?_⟩
    · exact t_80
    · exact t_1
    · exact t_142
    · exact t_45
    · exact t_1
set_option maxRecDepth 100000 in
set_option maxHeartbeats 4000000 in
theorem rlen_c (p : List Int) (hp : p.length = 224) : Does Try.prog 36 [.agg (p.map bV)] [] [] (.sc (.int .i64 (lnz p 224))) := by
  refine does_mkg 40 Try.func36 rfl rfl rfl (fun n B bx hd hpre hup hvs hbx hgx => ?_);refine runs_seq ?_;refine runs_region ?_;refine rl1 (gn rfl) rfl rfl (step_box_agg (k := n + 0) rfl rfl) ⟨t_0, trivial⟩ (by omega) ?_;refine rl0 (gn rfl) rfl rfl (step_as rfl rfl) trivial ?_;refine runsL_nil ?_;refine runs_seq ?_;refine runs_region ?_;refine rl0 (gn rfl) rfl rfl (step_as rfl rfl) trivial ?_;refine runsL_nil ?_;refine runs_seq ?_;refine runs_seq ?_;refine runs_region ?_;refine rl0 (gn rfl) rfl rfl (step_as rfl rfl) trivial ?_;refine runsL_nil ?_;refine runs_block ?_;have hs0_ : 0 = lnz p 0 := by rfl
  refine runs_loop (fun (ri_ : Nat) (st_ : Go.Vm.S) => ∃ (j : Nat) (m0 : Nat) (b0 : Nat → Box), (st_ = ⟨mk [(1, .ref (n + 0) 0), (2, .sc (.int .i64 0)), (3, .sc (.int .i64 (lnz p j))), (4, .sc (.int .i64 j))], m0, b0⟩) ∧ (ri_ = 224 - j) ∧ (n + 1 ≤ m0) ∧ (∀ k_, k_ < n → b0 k_ = bx k_) ∧ (b0 (n + 0) = .cells (p.map bV)) ∧ (j ≤ 224)) (224 - 0) ⟨_, sle ?_ (Nat.le_refl _), 0, _, _, rfl, rfl, ?_⟩ ?_
  · exact t_11
  · exact t_164
  · rintro _ _ ⟨j, m0, b0, rfl, rfl, hm0, hf0, hB0_0, hF0_0⟩
    refine runs_know (fun hd0 => ?_);refine runs_bump 20 ?_;simp only at hd0;refine runs_seq ?_;refine runs_seq ?_;refine runs_region ?_;refine rl0 (gn rfl) rfl rfl (step_mv rfl rfl) trivial ?_;refine rl_lss (gn rfl) rfl rfl rfl rfl rfl (fun h1 => ?_) (fun h1 => ?_)
    · skip
      refine runsL_nil ?_;refine runs_cond true (ev_mk rfl) (fun _ => ?_) (fun h_ => nomatch h_);refine runs_skip ?_;refine runs_seq ?_;refine runs_block ?_;refine runs_seq ?_;refine runs_region ?_;refine rl0 (gn rfl) rfl rfl (step_mv rfl rfl) trivial ?_;refine rl0 (gn rfl) rfl rfl (step_index_arr rfl (ev_mk rfl) (ev_mk rfl) Try.underlying84 F.sz5 (by omega) (by omega)) trivial ?_;refine' rl0 (gn rfl) rfl rfl (step_load_one (v := .sc (.int .u8 (at' p (j : Int)))) rfl (ev_mk rfl) F.one5 ?hv) ⟨?hb, trivial⟩ ?_
      case hb => exact t_4
      case hv => exact p_at (by omega) (by omega)
      refine rl_neq (gn rfl) rfl rfl rfl rfl rfl (fun h2 => ?_) (fun h2 => ?_)
      · skip
        refine runsL_nil ?_;refine runs_cond true (ev_mk rfl) (fun _ => ?_) (fun h_ => nomatch h_);refine runs_region ?_;refine rl0 (gn rfl) rfl rfl (step_mv rfl rfl) trivial ?_;refine rl0 (gn rfl) rfl rfl (step_add rfl (ev_mk rfl) (ev_mk rfl) (w64 (by omega))) trivial ?_;refine rl0 (gn rfl) rfl rfl (step_as rfl rfl) trivial ?_;refine runsL_nil ?_;refine runs_region ?_;refine rl0 (gn rfl) rfl rfl (step_mv rfl rfl) trivial ?_;refine rl0 (gn rfl) rfl rfl (step_add rfl (ev_mk rfl) (ev_mk rfl) (w64 (by omega))) trivial ?_;refine rl0 (gn rfl) rfl rfl (step_as rfl rfl) trivial ?_;refine runsL_nil ?_;have hq0_ : j + 1 = lnz p (j + 1) := t_124;refine ⟨_, _, ?_, sle ?_ (Nat.le_refl _), (j + 1), _, _, rfl, rfl, by omega, (fun k_ hk_ => t_24), t_130, by omega⟩
        · omega
        · exact t_3
      · skip
        refine runsL_nil ?_;refine runs_cond false (ev_mk rfl) (fun h_ => nomatch h_) (fun _ => ?_);refine runs_skip ?_;refine runs_region ?_;refine rl0 (gn rfl) rfl rfl (step_mv rfl rfl) trivial ?_;refine rl0 (gn rfl) rfl rfl (step_add rfl (ev_mk rfl) (ev_mk rfl) (w64 (by omega))) trivial ?_;refine rl0 (gn rfl) rfl rfl (step_as rfl rfl) trivial ?_;refine runsL_nil ?_;have hq0_ : lnz p j = lnz p (j + 1) := t_124;refine ⟨_, _, ?_, sle ?_ (Nat.le_refl _), (j + 1), _, _, rfl, rfl, by omega, (fun k_ hk_ => t_24), t_130, by omega⟩
        · omega
        · exact t_3
    · skip
      refine runsL_nil ?_;refine runs_cond false (ev_mk rfl) (fun h_ => nomatch h_) (fun _ => ?_);refine runs_exit ?_;refine runs_seq ?_;refine runs_region ?_;refine rl0 (gn rfl) rfl rfl (step_mv rfl rfl) trivial ?_;refine rl0 (gn rfl) rfl rfl (step_as rfl rfl) trivial ?_;refine runsL_nil ?_;refine runs_ret ?_;obtain rfl : j = 224 := by omega
      refine ⟨t_17, fin_mkg (rest rfl res0) ?_ ?_ ?_ ?_ ?_⟩
      · exact t_2
      · exact t_1
      · exact t_147
      · exact t_45
      · exact t_1
end Go.Proofs.Ytdmkhpnjjpeeaaa
namespace Go.Proofs.Ytdmkhpnjjpeeaaa
open Go.Vm
set_option linter.unusedVariables false
set_option linter.unusedSimpArgs false
theorem rows_tk (p : List Int) : ∀ i, i ≤ p.length → rowsOf 1 i (((p.map bV).drop 0).take (i * 1)) = bytesV (p.take i) := by
  intro i hi
  have key : ∀ (n : Nat) (xs : List Int), xs.length = n → rowsOf 1 n (xs.map bV) = bytesV xs := by
    intro n
    induction n with
    | zero => intro xs hx; rw [List.length_eq_zero_iff.1 hx]; rfl
    | succ n ih =>
      intro xs hx
      cases xs with
      | nil => simp at hx
      | cons x xs => simp only [rowsOf, List.map_cons, List.take_succ_cons, List.take_zero, List.drop_succ_cons, List.drop_zero]; rw [ih xs (by simpa using hx)]; rfl
  rw [List.drop_zero, Nat.mul_one, ← List.map_take]
  exact key i (p.take i) (by simp; omega)
def sqB (p : List Int) : List Int := (lnz p 224 : Int) :: p.take (lnz p 224)
theorem lnz_hit {p : List Int} {i : Nat} (h1 : 1 ≤ i) (h : ¬ at' p ((i : Int) - 1) = 0) : lnz p i = i := by
  obtain ⟨j, rfl⟩ : ∃ j, i = j + 1 := ⟨i - 1, by omega⟩
  unfold lnz
  rw [if_pos (by rw [show ((j + 1 : Nat) : Int) - 1 = (j : Int) by omega] at h; exact h)]
theorem lnz_miss {p : List Int} {i : Nat} (h1 : 1 ≤ i) (h : at' p ((i : Int) - 1) = 0) : lnz p i = lnz p (i - 1) := by
  obtain ⟨j, rfl⟩ : ∃ j, i = j + 1 := ⟨i - 1, by omega⟩
  rw [show ((j + 1 : Nat) : Int) - 1 = (j : Int) by omega] at h
  show lnz p (j + 1) = lnz p j
  rw [lnz, if_neg t_123]
set_option maxRecDepth 100000 in
set_option maxHeartbeats 4000000 in
theorem sq_c (p : List Int) (hp : p.length = 224) : Does Try.prog 63 [.agg (p.map bV)] [] [] (.sl 1 (bytesV (sqB p))) := by
  refine does_mkg 40 Try.func63 rfl rfl rfl (fun n B bx hd hpre hup hvs hbx hgx => ?_);refine runs_seq ?_;refine runs_region ?_;refine rl1 (gn rfl) rfl rfl (step_box_agg (k := n + 0) rfl rfl) ⟨t_0, trivial⟩ (by omega) ?_;refine rl0 (gn rfl) rfl rfl (step_as rfl rfl) trivial ?_;refine runsL_nil ?_;refine runs_seq ?_;refine runs_region ?_;refine rl0 (gn rfl) rfl rfl (step_as rfl rfl) trivial ?_;refine runsL_nil ?_;refine runs_seq ?_;refine runs_block ?_;refine runs_loop (fun (ri_ : Nat) (st_ : Go.Vm.S) => ∃ (i : Nat) (m0 : Nat) (b0 : Nat → Box), (st_ = ⟨mk [(1, .ref (n + 0) 0), (2, .sc (.slice none 0 0)), (3, .sc (.int .i64 i))], m0, b0⟩) ∧ (ri_ = 1 + i) ∧ (n + 1 ≤ m0) ∧ (∀ k_, k_ < n → b0 k_ = bx k_) ∧ (b0 (n + 0) = .cells (p.map bV)) ∧ (i ≤ 224) ∧ (lnz p 224 = lnz p i)) (1 + 224) ⟨_, sle ?_ (Nat.le_refl _), 224, _, _, rfl, rfl, ?_⟩ ?_
  · exact t_129
  · exact t_155
  · rintro _ _ ⟨i, m0, b0, rfl, rfl, hm0, hf0, hB0_0, hF0_0, hF0_1⟩
    refine runs_know (fun hd0 => ?_);refine runs_bump 20 ?_;simp only at hd0;refine runs_seq ?_;refine runs_seq ?_;refine runs_region ?_;refine rl0 (gn rfl) rfl rfl (step_mv rfl rfl) trivial ?_;refine rl_gtr (gn rfl) rfl rfl rfl rfl rfl (fun h1 => ?_) (fun h1 => ?_)
    · skip
      refine rl0 (gn rfl) rfl rfl (step_mv rfl rfl) trivial ?_;refine rl0 (gy rfl rfl rfl rfl rfl rfl) rfl rfl (step_mv rfl rfl) trivial ?_;refine rl0 (gy rfl rfl rfl rfl rfl rfl) rfl rfl (step_sub rfl (ev_mk rfl) (ev_mk rfl) (w64 (by omega))) trivial ?_;refine rl0 (gy rfl rfl rfl rfl rfl rfl) rfl rfl (step_index_arr rfl (ev_mk rfl) (ev_mk rfl) Try.underlying84 F.sz5 (by omega) (by omega)) trivial ?_;refine' rl0 (gy rfl rfl rfl rfl rfl rfl) rfl rfl (step_load_one (v := .sc (.int .u8 (at' p ((i : Int) - 1)))) rfl (ev_mk rfl) F.one5 ?hv) ⟨?hb, trivial⟩ ?_
      case hb => exact t_4
      case hv => (rw [show (i : Int) - 1 = ((i - 1 : Nat) : Int) by omega]; exact p_at (by omega) (by omega))
      refine rl_eql (gy rfl rfl rfl rfl rfl rfl) rfl rfl rfl rfl rfl (fun h2 => ?_) (fun h2 => ?_)
      · skip
        refine rl0 (gn rfl) rfl rfl (step_pick rfl (ev_mk rfl) (ev_mk rfl)) trivial ?_;refine runsL_nil ?_;refine runs_cond true (ev_mk rfl) (fun _ => ?_) (fun h_ => nomatch h_);refine runs_skip ?_;refine runs_block ?_;refine runs_region ?_;refine rl0 (gn rfl) rfl rfl (step_mv rfl rfl) trivial ?_;refine rl0 (gn rfl) rfl rfl (step_sub rfl (ev_mk rfl) (ev_mk rfl) (w64 (by omega))) trivial ?_;refine rl0 (gn rfl) rfl rfl (step_as rfl rfl) trivial ?_;refine runsL_nil ?_;refine ⟨_, _, ?_, sle ?_ (Nat.le_refl _), (i - 1), _, _, rfl, rfl, by omega, (fun k_ hk_ => t_24), t_158, by omega, by rw [hF0_1]; exact lnz_miss (by omega) (by assumption)⟩
        · omega
        · exact t_129
      · skip
        refine rl0 (gn rfl) rfl rfl (step_pick rfl (ev_mk rfl) (ev_mk rfl)) trivial ?_;refine runsL_nil ?_;refine runs_cond false (ev_mk rfl) (fun h_ => nomatch h_) (fun _ => ?_);refine runs_exit ?_;refine runs_seq ?_;refine runs_region ?_;refine rl0 (gn rfl) rfl rfl (step_mv rfl rfl) trivial ?_;refine rl0 (gn rfl) rfl rfl (step_conv_id rfl rfl Try.underlying3 Try.underlying5 (wu8 (by omega))) trivial ?_;refine rl0 (gn rfl) rfl rfl (step_lit rfl Try.underlying22 F.sz5 F.zero5 t_33 t_139 (by decide) rfl rfl t_21 rfl) trivial ?_;refine rl0 (gn rfl) rfl rfl (step_mv rfl rfl) trivial ?_;refine rl0 (gn rfl) rfl rfl (step_sl_arr (a := 0) (h := i) (m := 224) (q' := 0) (n' := i) (c' := 224) rfl (ev_mk rfl) Try.underlying84 F.sz5 bndLo_none (bndHi_nat (a := i) rfl (by first | omega | (split <;> omega) | (first | (rw [List.length_map]; exact hp) | (rw [List.length_map, hp]; omega)))) bndHi_none (fun h_ => t_106) (by omega) (by omega) (by omega) t_59 t_73 t_73) trivial ?_;refine' rl1 (gn rfl) rfl rfl (step_append_new (k := m0 + 0) rfl rfl rfl Try.underlying22 ⟨_, Try.underlying22, fun k_ => t_49⟩ F.el5 (ev_mk rfl) (.inl rfl) (ev_mk rfl) (gives_msl (ys := bytesV (p.take i)) ?gl ?gy) ?hg) ⟨?hb, ?gb, trivial⟩ (by omega) ?_
        case hb => exact t_4
        case gb => exact t_4
        case gl => rw [List.length_map, hp]; omega
        case gy => exact rows_tk p i (by omega)
        case hg => exact t_102
        refine rl0 (gn rfl) rfl rfl (step_as rfl rfl) trivial ?_;refine runsL_nil ?_;refine runs_ret ?_;have hl_ : lnz p 224 = i := t_127;refine ⟨t_17, fin_mkg (rest rfl res0) ?_ ?_ ?_ ?_ ?_⟩
        · exact t_85
        · exact t_1
        · exact t_147
        · exact t_45
        · exact t_1
    · skip
      refine rl0 (gn rfl) rfl rfl (step_mv rfl rfl) trivial ?_;refine rlk rfl rfl rfl rfl rfl (ngb rfl rfl) rfl rfl ?_;refine rlk rfl rfl rfl rfl rfl (ngb rfl rfl) rfl rfl ?_;refine rlk rfl rfl rfl rfl rfl (ngb rfl rfl) rfl rfl ?_;refine rlk rfl rfl rfl rfl rfl (ngb rfl rfl) rfl rfl ?_;refine rlk rfl rfl rfl rfl rfl (ngb rfl rfl) rfl rfl ?_;refine rl0 (gn rfl) rfl rfl (step_pick rfl (ev_mk rfl) (ev_mk rfl)) trivial ?_;refine runsL_nil ?_;refine runs_cond false (ev_mk rfl) (fun h_ => nomatch h_) (fun _ => ?_);refine runs_exit ?_;refine runs_seq ?_;refine runs_region ?_;refine rl0 (gn rfl) rfl rfl (step_mv rfl rfl) trivial ?_;refine rl0 (gn rfl) rfl rfl (step_conv_id rfl rfl Try.underlying3 Try.underlying5 (wu8 (by omega))) trivial ?_;refine rl0 (gn rfl) rfl rfl (step_lit rfl Try.underlying22 F.sz5 F.zero5 t_33 t_139 (by decide) rfl rfl t_21 rfl) trivial ?_;refine rl0 (gn rfl) rfl rfl (step_mv rfl rfl) trivial ?_;refine rl0 (gn rfl) rfl rfl (step_sl_arr (a := 0) (h := i) (m := 224) (q' := 0) (n' := i) (c' := 224) rfl (ev_mk rfl) Try.underlying84 F.sz5 bndLo_none (bndHi_nat (a := i) rfl (by first | omega | (split <;> omega) | (first | (rw [List.length_map]; exact hp) | (rw [List.length_map, hp]; omega)))) bndHi_none (fun h_ => t_106) (by omega) (by omega) (by omega) t_59 t_73 t_73) trivial ?_;refine' rl1 (gn rfl) rfl rfl (step_append_new (k := m0 + 0) rfl rfl rfl Try.underlying22 ⟨_, Try.underlying22, fun k_ => t_49⟩ F.el5 (ev_mk rfl) (.inl rfl) (ev_mk rfl) (gives_msl (ys := bytesV (p.take i)) ?gl ?gy) ?hg) ⟨?hb, ?gb, trivial⟩ (by omega) ?_
      case hb => exact t_4
      case gb => exact t_4
      case gl => rw [List.length_map, hp]; omega
      case gy => exact rows_tk p i (by omega)
      case hg => exact t_102
      refine rl0 (gn rfl) rfl rfl (step_as rfl rfl) trivial ?_;refine runsL_nil ?_;refine runs_ret ?_;have hl_ : lnz p 224 = i := t_127;refine ⟨t_17, fin_mkg (rest rfl res0) ?_ ?_ ?_ ?_ ?_⟩
      · exact t_85
      · exact t_1
      · exact t_147
      · exact t_45
      · exact t_1
end Go.Proofs.Ytdmkhpnjjpeeaaa
namespace Go.Proofs.Ytdmkhpnjjpeeaaa
open Go.Vm
set_option linter.unusedVariables false
set_option linter.unusedSimpArgs false
def rN (s : List Int × Bool) (m : Int) : Int := beN (low8 (rdT s.1 s.2 m))
def rS (s : List Int × Bool) (m : Int) : List Int × Bool := (rdX s.1 s.2 m, rdE s.1 s.2 m)
def okS (s : List Int × Bool) : Prop := Byts s.1 ∧ s.1.length ≤ 1000000000
theorem okS_rS {s : List Int × Bool} (h : okS s) (m : Int) : okS (rS s m) := ⟨rdX_bytes h.1 _ _, Nat.le_trans (rdX_len _ _ _) h.2⟩
theorem rdT_sz (xs : List Int) (bad : Bool) (m : Nat) : (rdT xs bad m).length ≤ m := by
  unfold rdT; split
  · simp; omega
  · simp
theorem rN_lt {s : List Int × Bool} (h : okS s) (m : Nat) (hm : m ≤ 8) : 0 ≤ rN s m ∧ rN s m < 256 ^ m := by
  have h1 := rdT_sz s.1 s.2 m
  have hb := rdT_bytes h.1 s.2 (m : Int)
  have h2 := beN_lt (rdT s.1 s.2 m).length (rdT s.1 s.2 m) hb (Nat.le_refl _)
  rw [List.take_length] at h2
  unfold rN; rw [low8_id (by omega)]
  refine ⟨h2.1, Int.lt_of_lt_of_le h2.2 ?_⟩;have h3 : 256 ^ (rdT s.1 s.2 (m : Int)).length ≤ 256 ^ m := Nat.pow_le_pow_right (by decide) h1;have h5 : ((256 ^ (rdT s.1 s.2 (m : Int)).length : Nat) : Int) ≤ ((256 ^ m : Nat) : Int) := Int.ofNat_le.2 h3;rw [Int.natCast_pow, Int.natCast_pow] at h5;exact h5
theorem rN_lt4 {s : List Int × Bool} (h : okS s) : 0 ≤ beN (low8 (rdT s.1 s.2 4)) ∧ beN (low8 (rdT s.1 s.2 4)) < 4294967296 := rN_lt h 4 (by omega)
theorem rN_lt1 {s : List Int × Bool} (h : okS s) : 0 ≤ beN (low8 (rdT s.1 s.2 1)) ∧ beN (low8 (rdT s.1 s.2 1)) < 256 := rN_lt h 1 (by omega)
def q1 (s : List Int × Bool) := rS s 8
def q2 (s : List Int × Bool) := rS (q1 s) 8
def q3 (s : List Int × Bool) := rS (q2 s) 4
def q4 (s : List Int × Bool) := rS (q3 s) 4
def q5 (s : List Int × Bool) := rS (q4 s) 1
def q6 (s : List Int × Bool) : List Int × Bool := (rdX (q5 s).1 (q5 s).2 16, !txOK (q5 s).1 (q5 s).2 16)
def rrV (s : List Int × Bool) : Rc := ⟨rN s 8, rN (q1 s) 8, rN (q2 s) 4, rN (q3 s) 4, txS (q5 s).1 (q5 s).2 16, rN (q4 s) 1 == 1⟩
def rrOK (s : List Int × Bool) : Bool := decide (rN (q4 s) 1 ≤ 1) && txOK (q5 s).1 (q5 s).2 16
set_option maxRecDepth 100000 in
set_option maxHeartbeats 4000000 in
theorem rr_ok (k : Nat) (xs : List Int) (bad : Bool) (hb : Byts xs) (hl : xs.length ≤ 1000000000) (h : rrOK (xs, bad) = true) : Does Try.prog 56 [.ref k 0] [(k, .cells (rdB xs bad))] [(k, .cells (rdB (q6 (xs, bad)).1 (q6 (xs, bad)).2))] (.tup [.agg (rcC (rrV (xs, bad))), .sc (.bool true)]) := by
  refine does_mkg 40 Try.func56 rfl rfl rfl (fun n B bx hd hpre hup hvs hbx hgx => ?_);have hp0 := hpre.1;have hk0 := lt_cells hd hp0;have hu0 := hup.1;have o0 : okS (xs, bad) := ⟨hb, hl⟩;have o1 : okS (q1 (xs, bad)) := okS_rS o0 8;have o2 : okS (q2 (xs, bad)) := okS_rS o1 8;have o3 : okS (q3 (xs, bad)) := okS_rS o2 4;have o4 : okS (q4 (xs, bad)) := okS_rS o3 4;have o5 : okS (q5 (xs, bad)) := okS_rS o4 1;have n2 := rN_lt4 o2;have n3 := rN_lt4 o3;have n4 := rN_lt1 o4;have hx1 : rN (q4 (xs, bad)) 1 ≤ 1 ∧ txOK (q5 (xs, bad)).1 (q5 (xs, bad)).2 16 = true := by unfold rrOK at h; simpa using h
  have hx2 : (q6 (xs, bad)).2 = false := by unfold q6; rw [hx1.2]; rfl
  refine runs_seq ?_;refine runs_region ?_;refine rl1 (gn rfl) rfl rfl (step_allocc (k := n + 0) (zs := [.int .u64 0, .int .u64 0, .int .u32 0, .int .u32 0, .string ByteArray.empty, .bool false]) (cs := [.sc (.int .u64 0), .sc (.int .u64 0), .sc (.int .u32 0), .sc (.int .u32 0), .sc (.string ByteArray.empty), .sc (.bool false)]) rfl F.zero36 t_33 t_55 t_33) ⟨t_0, trivial⟩ (by omega) ?_;refine rl0 (gn rfl) rfl rfl (step_as rfl rfl) trivial ?_;refine runsL_nil ?_;refine runs_seq ?_;refine runs_region ?_;refine rl0 (gn rfl) rfl rfl (step_mv rfl rfl) trivial ?_;refine rl1 (gn rfl) rfl rfl (step_callc rfl Try.func55 rfl rfl rfl (num_c k (xs, bad).1 (xs, bad).2 8 t_98 o0.1 o0.2) t_10) ⟨t_0, trivial⟩ (by omega) ?_;refine rl0 (gn rfl) rfl rfl (step_mv rfl rfl) trivial ?_;refine rl1 (gn rfl) rfl rfl (step_callc rfl Try.func55 rfl rfl rfl (num_c k (q1 (xs, bad)).1 (q1 (xs, bad)).2 8 t_98 o1.1 o1.2) t_10) ⟨t_0, trivial⟩ (by omega) ?_;refine rl0 (gn rfl) rfl rfl (step_mv rfl rfl) trivial ?_;refine rl1 (gn rfl) rfl rfl (step_callc rfl Try.func55 rfl rfl rfl (num_c k (q2 (xs, bad)).1 (q2 (xs, bad)).2 4 t_98 o2.1 o2.2) t_10) ⟨t_0, trivial⟩ (by omega) ?_;refine rl0 (gn rfl) rfl rfl (step_conv_id rfl rfl Try.underlying33 Try.underlying34 (wu32 (by exact ⟨n2.1, by have := n2.2; omega⟩))) trivial ?_;refine rl0 (gn rfl) rfl rfl (step_mv rfl rfl) trivial ?_;refine rl1 (gn rfl) rfl rfl (step_callc rfl Try.func55 rfl rfl rfl (num_c k (q3 (xs, bad)).1 (q3 (xs, bad)).2 4 t_98 o3.1 o3.2) t_10) ⟨t_0, trivial⟩ (by omega) ?_;refine rl0 (gn rfl) rfl rfl (step_conv_id rfl rfl Try.underlying33 Try.underlying34 (wu32 (by exact ⟨n3.1, by have := n3.2; omega⟩))) trivial ?_;refine rl0 (gn rfl) rfl rfl (step_build (ss := [1, 1, 1, 1, 1, 1]) (zs := [.int .u64 0, .int .u64 0, .int .u32 0, .int .u32 0, .string ByteArray.empty, .bool false]) rfl Try.underlying36 (by kernel_rfl) F.zero36 rfl rfl rfl) trivial ?_;refine rl1 (gn rfl) rfl rfl (step_allocc (k := n + 1) (zs := [.int .u64 0, .int .u64 0, .int .u32 0, .int .u32 0, .string ByteArray.empty, .bool false]) (cs := [.sc (.int .u64 0), .sc (.int .u64 0), .sc (.int .u32 0), .sc (.int .u32 0), .sc (.string ByteArray.empty), .sc (.bool false)]) rfl F.zero36 t_33 t_55 t_33) ⟨t_0, trivial⟩ (by omega) ?_;refine' rls (gn rfl) rfl (step_storeA rfl rfl rfl rfl F.agg36 ?hm ?hl) ⟨?hb, trivial⟩ ?hk ?_
  case hb => exact t_0
  case hm => exact t_15
  case hl => exact t_15
  case hk => omega
  refine runsL_nil ?_;refine runs_seq ?_;refine runs_region ?_;refine rl0 (gn rfl) rfl rfl (step_mv rfl rfl) trivial ?_;refine rl1 (gn rfl) rfl rfl (step_callc rfl Try.func55 rfl rfl rfl (num_c k (q4 (xs, bad)).1 (q4 (xs, bad)).2 1 t_98 o4.1 o4.2) t_10) ⟨t_0, trivial⟩ (by omega) ?_;refine rl0 (gn rfl) rfl rfl (step_as rfl rfl) trivial ?_;refine runsL_nil ?_;refine runs_seq ?_;refine runs_region ?_;refine rl0 (gn rfl) rfl rfl (step_mv rfl rfl) trivial ?_;refine rl0 (gn rfl) rfl rfl (step_binOp rfl (ev_mk rfl) (ev_mk rfl) run_eql) trivial ?_;refine rl0 (gn rfl) rfl rfl (step_mv rfl rfl) trivial ?_;refine rl1 (gn rfl) rfl rfl (step_callc rfl Try.func67 rfl rfl rfl (rtext_c k (q5 (xs, bad)).1 (q5 (xs, bad)).2 16 t_98 o5.1 o5.2) t_10) ⟨t_0, trivial⟩ (by omega) ?_;refine rl0 (gn rfl) rfl rfl (step_fieldAddr (off := 5) rfl (ev_mk rfl) Try.underlying36 rfl F.sz4 rfl) trivial ?_;refine' rls (gn rfl) rfl (step_store1 rfl rfl rfl rfl F.one4 rfl rfl ?hl ?hc) ⟨?hb, trivial⟩ ?hk ?_
  case hb => exact t_0
  case hl => exact t_22
  case hc => exact t_28
  case hk => omega
  refine rl0 (gn rfl) rfl rfl (step_fieldAddr (off := 4) rfl (ev_mk rfl) Try.underlying36 rfl F.sz9 rfl) trivial ?_;refine' rls (gn rfl) rfl (step_store1 rfl rfl rfl rfl F.one9 rfl rfl ?hl ?hc) ⟨?hb, trivial⟩ ?hk ?_
  case hb => exact t_0
  case hl => exact t_22
  case hc => exact t_28
  case hk => omega
  refine runsL_nil ?_;refine runs_seq ?_;refine runs_seq ?_;refine runs_region ?_;refine rl0 (gn rfl) rfl rfl (step_mv rfl rfl) trivial ?_;refine rl_gtr (gn rfl) rfl rfl rfl rfl rfl (fun h1 => ?_) (fun h1 => ?_)
  · exact False.elim (by exact absurd hx1.1 (Int.not_le.2 h1))
  refine rl0 (gn rfl) rfl rfl (step_mv rfl rfl) trivial ?_;refine rl0 (gy rfl rfl rfl rfl rfl rfl) rfl rfl (step_mv rfl rfl) trivial ?_;refine rl0 (gy rfl rfl rfl rfl rfl rfl) rfl rfl (step_callc rfl Try.func58 rfl rfl rfl (right_c k (q6 (xs, bad)).1 (q6 (xs, bad)).2) t_10) ⟨t_0, trivial⟩ ?_;refine rl0 (gy rfl rfl rfl rfl rfl rfl) rfl rfl (step_unOp rfl (ev_mk rfl) (fun _ => rfl)) trivial ?_;refine rl_know (d := 30) (c := false) rfl (by rw [hx2]; rfl) ?_;refine rl0 (gn rfl) rfl rfl (step_pick rfl (ev_mk rfl) (ev_mk rfl)) trivial ?_;refine runsL_nil ?_;refine runs_cond false (ev_mk rfl) (fun h_ => nomatch h_) (fun _ => ?_);refine runs_skip ?_;refine runs_seq ?_;refine runs_region ?_;refine' rl0 (gn rfl) rfl rfl (step_load_all rfl rfl F.agg36 ?hl) ⟨?hb, trivial⟩ ?_
  case hb => exact t_0
  case hl => exact t_15
  refine' rls (gn rfl) rfl (step_storeA rfl rfl rfl rfl F.agg36 ?hm ?hl) ⟨?hb, trivial⟩ ?hk ?_
  case hb => exact t_0
  case hm => exact t_15
  case hl => exact t_15
  case hk => omega
  refine rl0 (gn rfl) rfl rfl (step_as rfl rfl) trivial ?_;refine runsL_nil ?_;refine runs_ret ?_;refine ⟨t_17, fin_mkg (resc rfl t_0 F.agg36 t_15 (rest rfl res0)) ?_ ?_ ?_ ?_ ?_⟩
  · exact t_2
  · exact t_1
  · exact t_133
  · exact t_132
  · exact t_1
def zRc : Rc := ⟨0, 0, 0, 0, ByteArray.empty, false⟩
end Go.Proofs.Ytdmkhpnjjpeeaaa
