/- Walks by the logic of values. -/
import Derived.Test.YthpkhecialkmmaaKeVmT
import Derived.Test.YthpkhecialkmmaaKeVmP
import Derived.Test.YthpkhecialkmmaaKeVmV
import Derived.Test.YthpkhecialkmmaaKeVmO
import Derived.Test.YthpkhecialkmmaaKeVa
import Derived.Test.YthpkhecialkmmaaKeVb
import Derived.Test.YthpkhecialkmmaaKeVc
namespace Go.Proofs.Ythpkhecialkmmaa
open Go.Vm
set_option linter.unusedVariables false
set_option linter.unusedSimpArgs false
structure Op1 where (k key x y : Int) (v : ByteArray) (a b c d n : Int)
structure Rc1 where (id key x y : Int) (v : ByteArray) (gh : Bool)
structure Wt where (k n m : Int)
abbrev opC (o : Op1) : List V := [.sc (.int .i64 o.k), .sc (.int .u64 o.key), .sc (.int .u32 o.x), .sc (.int .u32 o.y), .sc (.string o.v), .sc (.int .u32 o.a), .sc (.int .u32 o.b), .sc (.int .u32 o.c), .sc (.int .u32 o.d), .sc (.int .i64 o.n)]
abbrev rcdC (r : Rc1) : List V := [.sc (.int .u64 r.id), .sc (.int .u64 r.key), .sc (.int .u32 r.x), .sc (.int .u32 r.y), .sc (.string r.v), .sc (.bool r.gh)]
abbrev wC (w : Wt) : List V := [.sc (.int .i64 w.k), .sc (.int .u64 w.n), .sc (.int .i64 w.m)]
abbrev enW (w : Wt) : List V := [.agg (wC w)]
def U4 (x : Int) : Prop := 0 ≤ x ∧ x ≤ 4294967295
def OkO (o : Op1) : Prop := U4 o.x ∧ U4 o.y ∧ U4 o.a ∧ U4 o.b ∧ U4 o.c ∧ U4 o.d
def OkR (r : Rc1) : Prop := U4 r.x ∧ U4 r.y
def allL (o : Op1) (r : Rc1) (th : Bool) : List Wt :=
  if o.k = 1 then [⟨0, 0, 2⟩, ⟨2, o.key, 5⟩, ⟨1, tiF o.x o.y, 2⟩]
  else if o.k = 2 then [⟨0, 0, 1⟩, ⟨2, o.key, 3⟩]
  else if o.k = 3 then (if th = true then [⟨0, 0, 2⟩, ⟨2, o.key, 5⟩, ⟨1, tiF r.x r.y, 2⟩] else [⟨0, 0, 2⟩, ⟨2, o.key, 5⟩])
  else if o.k = 4 ∨ o.k = 5 then ⟨0, 0, 1⟩ :: (touL o.a o.b o.c o.d).map fun t => ⟨1, t, 3⟩
  else []
section
variable {o : Op1} {r : Rc1} {th : Bool}
theorem al1 (h : o.k = 1) : allL o r th = [⟨0, 0, 2⟩, ⟨2, o.key, 5⟩, ⟨1, tiF o.x o.y, 2⟩] := if_pos h
theorem al2 (h : o.k = 2) : allL o r th = [⟨0, 0, 1⟩, ⟨2, o.key, 3⟩] := by unfold allL; rw [if_neg (by omega), if_pos h]
theorem al3t (h : o.k = 3) (ht : th = true) : allL o r th = [⟨0, 0, 2⟩, ⟨2, o.key, 5⟩, ⟨1, tiF r.x r.y, 2⟩] := by unfold allL; rw [if_neg (by omega), if_neg (by omega), if_pos h, if_pos ht]
theorem al3f (h : o.k = 3) (ht : th = false) : allL o r th = [⟨0, 0, 2⟩, ⟨2, o.key, 5⟩] := by unfold allL; rw [if_neg (by omega), if_neg (by omega), if_pos h, if_neg (by rw [ht]; exact Bool.false_ne_true)]
theorem al4 (h : o.k = 4 ∨ o.k = 5) : allL o r th = ⟨0, 0, 1⟩ :: (touL o.a o.b o.c o.d).map fun t => ⟨1, t, 3⟩ := by unfold allL; rw [if_neg (by omega), if_neg (by omega), if_neg (by omega), if_pos h]
theorem al5 (h1 : ¬ o.k = 1) (h2 : ¬ o.k = 2) (h3 : ¬ o.k = 3) (h4 : ¬ o.k = 4) (h5 : ¬ o.k = 5) : allL o r th = [] := by unfold allL; rw [if_neg h1, if_neg h2, if_neg h3, if_neg (by omega)]
theorem al4_get {i : Nat} {t : Int} (h : o.k = 4 ∨ o.k = 5) (ht : (touL o.a o.b o.c o.d)[i]? = some t) : ((allL o r th).map enW)[1 + i]? = some [V.agg [.sc (.int .i64 1), .sc (.int .u64 t), .sc (.int .i64 3)]] := by
  rw [al4 h, Nat.add_comm]; simp [ht, enW, wC]
theorem al4_0 (h : o.k = 4 ∨ o.k = 5) : ((allL o r th).map enW)[0]? = some [V.agg [.sc (.int .i64 0), .sc (.int .u64 0), .sc (.int .i64 1)]] := by rw [al4 h]; rfl
theorem al4_len (h : o.k = 4 ∨ o.k = 5) : ((allL o r th).map enW).length = 1 + (touL o.a o.b o.c o.d).length := by rw [al4 h]; simp; omega
theorem al3_0 (h : o.k = 3) : ((allL o r th).map enW)[0]? = some [V.agg [.sc (.int .i64 0), .sc (.int .u64 0), .sc (.int .i64 2)]] ∧ ((allL o r th).map enW)[1]? = some [V.agg [.sc (.int .i64 2), .sc (.int .u64 o.key), .sc (.int .i64 5)]] ∧ 2 ≤ ((allL o r th).map enW).length := by
  cases th with
  | true => rw [al3t h rfl]; exact ⟨rfl, rfl, by simp⟩
  | false => rw [al3f h rfl]; exact ⟨rfl, rfl, by simp⟩
end
theorem tou_bd {a b c d t : Int} {i : Nat} (g0 : U4 a) (g1 : U4 b) (g2 : U4 c) (g3 : U4 d) (h : (touL a b c d)[i]? = some t) : 0 ≤ t ∧ t < 64 := by
  have := (mem_tou g0 g1 g2 g3).1 (List.mem_of_getElem? h)
  exact ⟨this.1, this.2.1⟩
set_option maxRecDepth 100000 in
set_option maxHeartbeats 4000000 in
theorem store_c  : Does Try.prog 25 [] [] [] (.agg [.sc (.int .i64 0), .sc (.int .u64 0)]) := by
  refine does_mkg 40 Try.func25 rfl rfl rfl (fun n B bx hd hpre hup hvs hbx hgx => ?_)
  refine runs_seq ?_
  refine runs_region ?_
  refine rl1 (gn rfl) rfl rfl (step_allocc (k := n + 0) (zs := [.int .i64 0, .int .u64 0]) (cs := [.sc (.int .i64 0), .sc (.int .u64 0)]) rfl F.zero39 (by first | rfl | simp) (by first | rfl | decide | simp) (by first | rfl | simp)) ⟨by repeat (first | exact uE | refine uN (by omega) ?_ | assumption | exact hd _ (by omega) | fail), trivial⟩ (by omega) ?_
  refine runsL_nil ?_
  refine runs_seq ?_
  refine runs_region ?_
  refine rl0 (gn rfl) rfl rfl (step_build (ss := [1, 1]) (zs := [.int .i64 0, .int .u64 0]) rfl Try.underlying39 (by kernel_rfl) F.zero39 rfl rfl rfl) trivial ?_
  refine' rls (gn rfl) rfl (step_storeA rfl rfl rfl rfl F.agg39 ?hm ?hl) ⟨?hb, trivial⟩ ?hk ?_
  case hb => repeat (first | exact uE | refine uN (by omega) ?_ | assumption | exact hd _ (by omega) | fail)
  case hm => first | rfl | (simp; done) | (first | (simp; done) | (simp; omega) | omega)
  case hl => first | rfl | (simp; done) | (first | (simp; done) | (simp; omega) | omega)
  case hk => omega
  refine runsL_nil ?_
  refine runs_ret ?_
  refine ⟨by first | exact .inr rfl | exact .inl rfl, fin_mkg (resc rfl (by repeat (first | exact uE | refine uN (by omega) ?_ | assumption | exact hd _ (by omega) | fail)) F.agg39 (by first | rfl | (simp; done) | (first | (simp; done) | (simp; omega) | omega)) res0) ?_ ?_ ?_ ?_ ?_⟩
  · (repeat' (first | exact VLe.refl _ | exact VLe.own_sl _ _ _ | exact VLe.fl_sl _ _ | exact VLe.nil_sl _ | exact VLe.nil_fl _ | exact VLes.refl _ | exact .nil | refine VLe.tup ?_ | refine VLe.agg ?_ | refine .cons ?_ ?_ | (rw [Int.natCast_add]; exact VLe.refl _) | exact vle_int (by omega) | exact vle_bool (by first | rfl | assumption | (simp_all; done) | fail) | fail))
  · repeat (first | exact trivial | assumption | omega | (refine bdR_map (fun _ => ?_)) | (refine bdL_map (fun _ => ?_)) | refine ⟨?_, ?_⟩ | fail)
  · intro k_ hk_; exact ble (by repeat (first | exact rfl | refine uN (by omega) ?_ | assumption | fail))
  · intro p hp; cases hp
  · repeat (first | exact trivial | assumption | omega | (refine bdR_map (fun _ => ?_)) | (refine bdL_map (fun _ => ?_)) | refine ⟨?_, ?_⟩ | fail)
set_option maxRecDepth 100000 in
set_option maxHeartbeats 4000000 in
theorem key_c {k : Int} : Does Try.prog 26 [.sc (.int .u64 k)] [] [] (.agg [.sc (.int .i64 2), .sc (.int .u64 k)]) := by
  refine does_mkg 40 Try.func26 rfl rfl rfl (fun n B bx hd hpre hup hvs hbx hgx => ?_)
  refine runs_seq ?_
  refine runs_region ?_
  refine rl1 (gn rfl) rfl rfl (step_allocc (k := n + 0) (zs := [.int .i64 0, .int .u64 0]) (cs := [.sc (.int .i64 0), .sc (.int .u64 0)]) rfl F.zero39 (by first | rfl | simp) (by first | rfl | decide | simp) (by first | rfl | simp)) ⟨by repeat (first | exact uE | refine uN (by omega) ?_ | assumption | exact hd _ (by omega) | fail), trivial⟩ (by omega) ?_
  refine runsL_nil ?_
  refine runs_seq ?_
  refine runs_region ?_
  refine rl0 (gn rfl) rfl rfl (step_mv rfl rfl) trivial ?_
  refine rl0 (gn rfl) rfl rfl (step_build (ss := [1, 1]) (zs := [.int .i64 0, .int .u64 0]) rfl Try.underlying39 (by kernel_rfl) F.zero39 rfl rfl rfl) trivial ?_
  refine' rls (gn rfl) rfl (step_storeA rfl rfl rfl rfl F.agg39 ?hm ?hl) ⟨?hb, trivial⟩ ?hk ?_
  case hb => repeat (first | exact uE | refine uN (by omega) ?_ | assumption | exact hd _ (by omega) | fail)
  case hm => first | rfl | (simp; done) | (first | (simp; done) | (simp; omega) | omega)
  case hl => first | rfl | (simp; done) | (first | (simp; done) | (simp; omega) | omega)
  case hk => omega
  refine runsL_nil ?_
  refine runs_ret ?_
  refine ⟨by first | exact .inr rfl | exact .inl rfl, fin_mkg (resc rfl (by repeat (first | exact uE | refine uN (by omega) ?_ | assumption | exact hd _ (by omega) | fail)) F.agg39 (by first | rfl | (simp; done) | (first | (simp; done) | (simp; omega) | omega)) res0) ?_ ?_ ?_ ?_ ?_⟩
  · (repeat' (first | exact VLe.refl _ | exact VLe.own_sl _ _ _ | exact VLe.fl_sl _ _ | exact VLe.nil_sl _ | exact VLe.nil_fl _ | exact VLes.refl _ | exact .nil | refine VLe.tup ?_ | refine VLe.agg ?_ | refine .cons ?_ ?_ | (rw [Int.natCast_add]; exact VLe.refl _) | exact vle_int (by omega) | exact vle_bool (by first | rfl | assumption | (simp_all; done) | fail) | fail))
  · repeat (first | exact trivial | assumption | omega | (refine bdR_map (fun _ => ?_)) | (refine bdL_map (fun _ => ?_)) | refine ⟨?_, ?_⟩ | fail)
  · intro k_ hk_; exact ble (by repeat (first | exact rfl | refine uN (by omega) ?_ | assumption | fail))
  · intro p hp; cases hp
  · repeat (first | exact trivial | assumption | omega | (refine bdR_map (fun _ => ?_)) | (refine bdL_map (fun _ => ?_)) | refine ⟨?_, ?_⟩ | fail)
set_option maxRecDepth 100000 in
set_option maxHeartbeats 4000000 in
theorem ntile_c {t : Int} (h : 0 ≤ t ∧ t < 64) : Does Try.prog 27 [.sc (.int .i64 t)] [] [] (.agg [.sc (.int .i64 1), .sc (.int .u64 t)]) := by
  refine does_mkg 40 Try.func27 rfl rfl rfl (fun n B bx hd hpre hup hvs hbx hgx => ?_)
  refine runs_seq ?_
  refine runs_region ?_
  refine rl1 (gn rfl) rfl rfl (step_allocc (k := n + 0) (zs := [.int .i64 0, .int .u64 0]) (cs := [.sc (.int .i64 0), .sc (.int .u64 0)]) rfl F.zero39 (by first | rfl | simp) (by first | rfl | decide | simp) (by first | rfl | simp)) ⟨by repeat (first | exact uE | refine uN (by omega) ?_ | assumption | exact hd _ (by omega) | fail), trivial⟩ (by omega) ?_
  refine runsL_nil ?_
  refine runs_seq ?_
  refine runs_region ?_
  refine rl0 (gn rfl) rfl rfl (step_mv rfl rfl) trivial ?_
  refine rl0 (gn rfl) rfl rfl (step_conv_id rfl rfl Try.underlying3 Try.underlying22 (wu64 (by omega))) trivial ?_
  refine rl0 (gn rfl) rfl rfl (step_build (ss := [1, 1]) (zs := [.int .i64 0, .int .u64 0]) rfl Try.underlying39 (by kernel_rfl) F.zero39 rfl rfl rfl) trivial ?_
  refine' rls (gn rfl) rfl (step_storeA rfl rfl rfl rfl F.agg39 ?hm ?hl) ⟨?hb, trivial⟩ ?hk ?_
  case hb => repeat (first | exact uE | refine uN (by omega) ?_ | assumption | exact hd _ (by omega) | fail)
  case hm => first | rfl | (simp; done) | (first | (simp; done) | (simp; omega) | omega)
  case hl => first | rfl | (simp; done) | (first | (simp; done) | (simp; omega) | omega)
  case hk => omega
  refine runsL_nil ?_
  refine runs_ret ?_
  refine ⟨by first | exact .inr rfl | exact .inl rfl, fin_mkg (resc rfl (by repeat (first | exact uE | refine uN (by omega) ?_ | assumption | exact hd _ (by omega) | fail)) F.agg39 (by first | rfl | (simp; done) | (first | (simp; done) | (simp; omega) | omega)) res0) ?_ ?_ ?_ ?_ ?_⟩
  · (repeat' (first | exact VLe.refl _ | exact VLe.own_sl _ _ _ | exact VLe.fl_sl _ _ | exact VLe.nil_sl _ | exact VLe.nil_fl _ | exact VLes.refl _ | exact .nil | refine VLe.tup ?_ | refine VLe.agg ?_ | refine .cons ?_ ?_ | (rw [Int.natCast_add]; exact VLe.refl _) | exact vle_int (by omega) | exact vle_bool (by first | rfl | assumption | (simp_all; done) | fail) | fail))
  · repeat (first | exact trivial | assumption | omega | (refine bdR_map (fun _ => ?_)) | (refine bdL_map (fun _ => ?_)) | refine ⟨?_, ?_⟩ | fail)
  · intro k_ hk_; exact ble (by repeat (first | exact rfl | refine uN (by omega) ?_ | assumption | fail))
  · intro p hp; cases hp
  · repeat (first | exact trivial | assumption | omega | (refine bdR_map (fun _ => ?_)) | (refine bdL_map (fun _ => ?_)) | refine ⟨?_, ?_⟩ | fail)
end Go.Proofs.Ythpkhecialkmmaa

