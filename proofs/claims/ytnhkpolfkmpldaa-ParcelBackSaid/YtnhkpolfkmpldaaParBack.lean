/- ParcelBack: its walk. -/
import Derived.Test.YtnhkpolfkmpldaaJ3
namespace Go.Proofs.Ytnhkpolfkmpldaa.PAll
open Go.RowKit Go.Proofs.YtnhkpolfkmpldaaW.PrintWords Go.Proofs.YtnhkpolfkmpldaaW.PrintLast Go.Proofs.YtnhkpolfkmpldaaW.PrintMore
set_option linter.unusedVariables false
set_option linter.unusedSimpArgs false
attribute [local go_sem high] eqA27
theorem cells10 {w : World} {b : Nat} {T : TypeId} {v0 v1 v2 v3 v4 v5 v6 v7 v8 v9 : Value} (h : w.heap[b]? = some (.cells #[v0, v1, v2, v3, v4, v5, v6, v7, v8, v9] T (0, 0))) : w.cell? ⟨b, 0, none⟩ = some v0 ∧ w.cell? ⟨b, 1, none⟩ = some v1 ∧ w.cell? ⟨b, 2, none⟩ = some v2 ∧ w.cell? ⟨b, 3, none⟩ = some v3 ∧ w.cell? ⟨b, 4, none⟩ = some v4 ∧ w.cell? ⟨b, 5, none⟩ = some v5 ∧ w.cell? ⟨b, 6, none⟩ = some v6 ∧ w.cell? ⟨b, 7, none⟩ = some v7 ∧ w.cell? ⟨b, 8, none⟩ = some v8 ∧ w.cell? ⟨b, 9, none⟩ = some v9 :=
  ⟨(blk_cell h 0).trans rfl, (blk_cell h 1).trans rfl, (blk_cell h 2).trans rfl, (blk_cell h 3).trans rfl, (blk_cell h 4).trans rfl, (blk_cell h 5).trans rfl, (blk_cell h 6).trans rfl, (blk_cell h 7).trans rfl, (blk_cell h 8).trans rfl, (blk_cell h 9).trans rfl⟩
theorem cells3 {w : World} {b : Nat} {T : TypeId} {v0 v1 v2 : Value} (h : w.heap[b]? = some (.cells #[v0, v1, v2] T (0, 0))) : w.cell? ⟨b, 0, none⟩ = some v0 ∧ w.cell? ⟨b, 1, none⟩ = some v1 ∧ w.cell? ⟨b, 2, none⟩ = some v2 :=
  ⟨(blk_cell h 0).trans rfl, (blk_cell h 1).trans rfl, (blk_cell h 2).trans rfl⟩
def counterpanelaw33_ParcelBack.T7 : Bool × List (List Nat × List Nat) := (true, [([], []), ([0], [0]), ([1], [1]), ([2], [2]), ([2], [2]), ([3, 4, 2], [2, 3, 4]), ([2, 5], [2, 5]), ([6, 2], [6]), ([7], [7]), ([8, 7], [7, 8]), ([9, 7, 7], [7, 9]), ([10], [10]), ([10], [10]), ([11, 12, 10, 10], [10, 11, 12]), ([10], [10]), ([10], [10]), ([14, 15, 10], [10, 14, 15]), ([13, 16, 10], [10, 13, 16]), ([10, 17, 7], [7, 10, 17]), ([7, 18], [7, 18])])
def counterpanelaw33_ParcelBack.B7 : List Nat := [0, 1, 3, 7, 7, 31, 63, 127, 255, 511, 1023, 2047, 2047, 8191, 2047, 2047, 51199, 131071, 262143, 524287]
theorem counterpanelaw33_ParcelBack.tab7 : rtab .any (opsOf Try.f4 7) = counterpanelaw33_ParcelBack.T7 := by kernel_rfl
theorem counterpanelaw33_ParcelBack.bits7 : waitsOk counterpanelaw33_ParcelBack.T7.2 counterpanelaw33_ParcelBack.B7 = true := by kernel_rfl
theorem chain_iff (w : World) {ok okey ox oy op0 op1 op2 op3 on zk zkey zx zy zp0 zp1 zp2 zp3 zn : Int} {ov zv : ByteArray} {X X2 : List Int} (hX : X = encT (ok, okey, ox, oy, ov, op0, op1, op2, op3, on)) (hX2 : X2 = encT (zk, zkey, zx, zy, zv, zp0, zp1, zp2, zp3, zn)) (ho : okOp (ok, okey, ox, oy, ov, op0, op1, op2, op3, on)) (hz : okOp (zk, zkey, zx, zy, zv, zp0, zp1, zp2, zp3, zn)) (h1 : textC (valT (ok, okey, ox, oy, ov, op0, op1, op2, op3, on)) 16 = 0) (h2 : textC (valT (zk, zkey, zx, zy, zv, zp0, zp1, zp2, zp3, zn)) 16 = 0) : (ok == zk && (okey == zkey && (ox == zx && (oy == zy && (ov.toList == zv.toList && ((op0 == zp0 && (op1 == zp1 && (op2 == zp2 && (op3 == zp3)))) && (on == zn))))))) = true ↔ X = X2 := by
  haveI := Classical.propDecidable ((ok, okey, ox, oy, ov, op0, op1, op2, op3, on) = (zk, zkey, zx, zy, zv, zp0, zp1, zp2, zp3, zn))
  have e1 := eqA27 0 w ok zk okey zkey ox zx oy zy ov zv op0 zp0 op1 zp1 op2 zp2 op3 zp3 on zn
  have e2 := eq27 0 w (ok, okey, ox, oy, ov, op0, op1, op2, op3, on) (zk, zkey, zx, zy, zv, zp0, zp1, zp2, zp3, zn) (decide ((ok, okey, ox, oy, ov, op0, op1, op2, op3, on) = (zk, zkey, zx, zy, zv, zp0, zp1, zp2, zp3, zn))) (by rw [decide_eq_true_eq])
  unfold opT opC at e2
  rw [e1] at e2
  have e3 := (Result.ok.inj e2).1
  rw [e3, decide_eq_true_eq, hX, hX2]
  exact (encT_inj ho hz h1 h2).symm
set_option maxHeartbeats 8000000 in
set_option maxRecDepth 100000 in
theorem back_core (W : World) (o z : OpT) (ho : okOp o) (hz : okOp z) (a : AnsT) (AA : Option Addr) (cA : Nat) (hcA : a.recs.length ≤ cA) (hC : Kd.C k54 W AA a.recs.length a.recs) (hr : ∀ r ∈ a.recs, okRec r) (hn : i64 a.n) (X X2 Y : List Int) (cd cd2 ca : Int) (hX : X = encT o ∧ cd = textC (valT o) 16) (hX2 : X2 = encT z ∧ cd2 = textC (valT z) 16) (hY : Y = encA a ∧ ca = ansCode a) :
    Calls Try.prog 4 #[.agg (opT o), .agg (opT z), .agg #[.int .i64 a.code, .slice AA a.recs.length cA, .int .i64 a.n]] W fun e w' => e = .returned (.bool true) ∧ Below W.heap.size W w' := by
  obtain ⟨ok, okey, ox, oy, ov, op0, op1, op2, op3, on⟩ := o
  obtain ⟨zk, zkey, zx, zy, zv, zp0, zp1, zp2, zp3, zn⟩ := z
  unfold opT opC
  have HB := Aside0.mk (Below.refl W.heap.size W)
  have HX := Aside0.mk hX
  have HX2 := Aside0.mk hX2
  have HY := Aside0.mk hY
  have HOK := Aside0.mk ho
  have HOK2 := Aside0.mk hz
  have HRS := Aside0.mk hr
  have HN := Aside0.mk hn
  have hCA := Aside0.mk hC
  clear hX hX2 hY ho hz hr hC hn
  go_enter Try.func4, Try.ntmps4
  by_cases q1 : (100 : Int) < (ov.size : Int)
  · skip
    have q1' := eq_true (show 100 < ov.size by omega)
    replace q1 := eq_true q1
    go_wp2_with (go_at_call 8; refine (works_c _).mono ?_; rintro e w9 ⟨rfl, hb9⟩)
    go_ret
    exact ⟨rfl, below_step (below_alloc (below_alloc (below_alloc HB.out _) _) _) hb9⟩
  have q1' := eq_false (show ¬ 100 < ov.size by omega)
  replace q1 := eq_false q1
  by_cases q2 : (100 : Int) < (zv.size : Int)
  · skip
    have q2' := eq_true (show 100 < zv.size by omega)
    replace q2 := eq_true q2
    go_wp2_with (go_at_call 8; refine (works_c _).mono ?_; rintro e w9 ⟨rfl, hb9⟩)
    go_ret
    exact ⟨rfl, below_step (below_alloc (below_alloc (below_alloc HB.out _) _) _) hb9⟩
  have q2' := eq_false (show ¬ 100 < zv.size by omega)
  replace q2 := eq_false q2
  go_wp2_with fail
  have hb := below_alloc (Below.refl (World.heap W).size W) (.cells #[.int .i64 ok, .int .u64 okey, .int .u32 ox, .int .u32 oy, .string ov, .int .u32 op0, .int .u32 op1, .int .u32 op2, .int .u32 op3, .int .i64 on] 27 (0, 0))
  have BKo := Aside0.mk (heap_alloc_new W (.cells #[.int .i64 ok, .int .u64 okey, .int .u32 ox, .int .u32 oy, .string ov, .int .u32 op0, .int .u32 op1, .int .u32 op2, .int .u32 op3, .int .i64 on] 27 (0, 0)))
  have Hn_ : Aside0 ((World.alloc W (.cells #[.int .i64 ok, .int .u64 okey, .int .u32 ox, .int .u32 oy, .string ov, .int .u32 op0, .int .u32 op1, .int .u32 op2, .int .u32 op3, .int .i64 on] 27 (0, 0))).heap.size = (World.heap W).size + 1) := ⟨by simp⟩
  try clear Hz_
  replace HB := Aside0.mk (below_step HB.out hb)
  replace hCA := Aside0.mk (Kd.C_below hCA.out hb)
  clear hb
  generalize World.alloc W (.cells #[.int .i64 ok, .int .u64 okey, .int .u32 ox, .int .u32 oy, .string ov, .int .u32 op0, .int .u32 op1, .int .u32 op2, .int .u32 op3, .int .i64 on] 27 (0, 0)) = wb1 at HB hCA BKo Hn_ ⊢
  have Hz_ := Hn_
  clear Hn_
  have hb := below_alloc (Below.refl (World.heap wb1).size wb1) (.cells #[.int .i64 zk, .int .u64 zkey, .int .u32 zx, .int .u32 zy, .string zv, .int .u32 zp0, .int .u32 zp1, .int .u32 zp2, .int .u32 zp3, .int .i64 zn] 27 (0, 0))
  have BKz := Aside0.mk (heap_alloc_new wb1 (.cells #[.int .i64 zk, .int .u64 zkey, .int .u32 zx, .int .u32 zy, .string zv, .int .u32 zp0, .int .u32 zp1, .int .u32 zp2, .int .u32 zp3, .int .i64 zn] 27 (0, 0)))
  have Hn_ : Aside0 ((World.alloc wb1 (.cells #[.int .i64 zk, .int .u64 zkey, .int .u32 zx, .int .u32 zy, .string zv, .int .u32 zp0, .int .u32 zp1, .int .u32 zp2, .int .u32 zp3, .int .i64 zn] 27 (0, 0))).heap.size = (World.heap W).size + 1 + 1) := ⟨by simp [Hz_.out]⟩
  rw [Hz_.out] at BKz
  try clear Hz_
  replace HB := Aside0.mk (below_step HB.out hb)
  replace BKo := Aside0.mk (blk_below BKo.out hb)
  replace hCA := Aside0.mk (Kd.C_below hCA.out hb)
  clear hb
  generalize World.alloc wb1 (.cells #[.int .i64 zk, .int .u64 zkey, .int .u32 zx, .int .u32 zy, .string zv, .int .u32 zp0, .int .u32 zp1, .int .u32 zp2, .int .u32 zp3, .int .i64 zn] 27 (0, 0)) = wb2 at HB BKo hCA BKz Hn_ ⊢
  have Hz_ := Hn_
  clear Hn_
  have hb := below_alloc (Below.refl (World.heap wb2).size wb2) (.cells #[.int .i64 a.code, .slice AA a.recs.length cA, .int .i64 a.n] 31 (0, 0))
  have BKa := Aside0.mk (heap_alloc_new wb2 (.cells #[.int .i64 a.code, .slice AA a.recs.length cA, .int .i64 a.n] 31 (0, 0)))
  have Hn_ : Aside0 ((World.alloc wb2 (.cells #[.int .i64 a.code, .slice AA a.recs.length cA, .int .i64 a.n] 31 (0, 0))).heap.size = (World.heap W).size + 1 + 1 + 1) := ⟨by simp [Hz_.out]⟩
  rw [Hz_.out] at BKa
  try clear Hz_
  replace HB := Aside0.mk (below_step HB.out hb)
  replace BKo := Aside0.mk (blk_below BKo.out hb)
  replace BKz := Aside0.mk (blk_below BKz.out hb)
  replace hCA := Aside0.mk (Kd.C_below hCA.out hb)
  clear hb
  generalize World.alloc wb2 (.cells #[.int .i64 a.code, .slice AA a.recs.length cA, .int .i64 a.n] 31 (0, 0)) = wb3 at HB BKo BKz hCA BKa Hn_ ⊢
  have Hz_ := Hn_
  clear Hn_
  clear Hz_
  obtain ⟨lt, hlt⟩ : ∃ q, lightB a = q := ⟨_, rfl⟩
  refine (lightE a AA cA _ _ rfl hCA.out hcA lt hlt).mono ?_
  rintro e w1 ⟨rfl, hb⟩
  replace HB := Aside0.mk (below_step HB.out hb)
  replace BKo := Aside0.mk (blk_below BKo.out hb)
  replace BKz := Aside0.mk (blk_below BKz.out hb)
  replace BKa := Aside0.mk (blk_below BKa.out hb)
  replace hCA := Aside0.mk (Kd.C_below hCA.out hb)
  clear hb
  obtain ⟨fBKo_0, fBKo_1, fBKo_2, fBKo_3, fBKo_4, fBKo_5, fBKo_6, fBKo_7, fBKo_8, fBKo_9⟩ := cells10 BKo.out
  obtain ⟨fBKz_0, fBKz_1, fBKz_2, fBKz_3, fBKz_4, fBKz_5, fBKz_6, fBKz_7, fBKz_8, fBKz_9⟩ := cells10 BKz.out
  replace hlt := Aside0.mk hlt
  cases lt with
  | false =>
    go_wp2_with (go_at_call 8; refine (works_c _).mono ?_; rintro e w9 ⟨rfl, hb9⟩)
    go_ret
    exact ⟨rfl, below_step HB.out hb9⟩
  | true =>
    have hLs := Aside0.mk (lightB_le hlt.out)
    go_wp2_with fail
    refine (opE (ok, okey, ox, oy, ov, op0, op1, op2, op3, on) HOK.out _ X cd HX.out.1 HX.out.2).mono ?_
    rintro e w2 ⟨A1, c1, rfl, hc1, hC1, hb⟩
    replace HB := Aside0.mk (below_step HB.out hb)
    replace BKo := Aside0.mk (blk_below BKo.out hb)
    replace BKz := Aside0.mk (blk_below BKz.out hb)
    replace BKa := Aside0.mk (blk_below BKa.out hb)
    replace hCA := Aside0.mk (Kd.C_below hCA.out hb)
    clear hb
    replace hC1 := Aside0.mk hC1
    clear fBKo_0 fBKo_1 fBKo_2 fBKo_3 fBKo_4 fBKo_5 fBKo_6 fBKo_7 fBKo_8 fBKo_9 fBKz_0 fBKz_1 fBKz_2 fBKz_3 fBKz_4 fBKz_5 fBKz_6 fBKz_7 fBKz_8 fBKz_9
    obtain ⟨fBKz_0, fBKz_1, fBKz_2, fBKz_3, fBKz_4, fBKz_5, fBKz_6, fBKz_7, fBKz_8, fBKz_9⟩ := cells10 BKz.out
    go_wp2_with fail
    refine (opE (zk, zkey, zx, zy, zv, zp0, zp1, zp2, zp3, zn) HOK2.out _ X2 cd2 HX2.out.1 HX2.out.2).mono ?_
    rintro e w3 ⟨A2, c2, rfl, hc2, hC2, hb⟩
    replace HB := Aside0.mk (below_step HB.out hb)
    replace BKo := Aside0.mk (blk_below BKo.out hb)
    replace BKz := Aside0.mk (blk_below BKz.out hb)
    replace BKa := Aside0.mk (blk_below BKa.out hb)
    replace hCA := Aside0.mk (Kd.C_below hCA.out hb)
    replace hC1 := Aside0.mk (Kd.C_below hC1.out hb)
    clear hb
    replace hC2 := Aside0.mk hC2
    clear fBKz_0 fBKz_1 fBKz_2 fBKz_3 fBKz_4 fBKz_5 fBKz_6 fBKz_7 fBKz_8 fBKz_9
    obtain ⟨fBKa_0, fBKa_1, fBKa_2⟩ := cells3 BKa.out
    by_cases e1 : cd = 0
    · skip
      subst e1
      go_wp2_with fail
      refine (isOpE A1 c1 _ X _ rfl hC1.out hc1 (HX.out.1 ▸ (encT_bytes _).1) (by rw [HX.out.1]; exact Nat.le_trans (encT_bytes _).2 (by omega)) (ok, okey, ox, oy, ov, op0, op1, op2, op3, on) 0 (by rw [HX.out.1]; exact isOp_enc _ HOK.out HX.out.2.symm)).mono ?_
      rintro e w4 ⟨rfl, hb⟩
      replace HB := Aside0.mk (below_step HB.out hb)
      replace BKo := Aside0.mk (blk_below BKo.out hb)
      replace BKz := Aside0.mk (blk_below BKz.out hb)
      replace BKa := Aside0.mk (blk_below BKa.out hb)
      replace hCA := Aside0.mk (Kd.C_below hCA.out hb)
      replace hC1 := Aside0.mk (Kd.C_below hC1.out hb)
      replace hC2 := Aside0.mk (Kd.C_below hC2.out hb)
      clear hb
      clear fBKa_0 fBKa_1 fBKa_2
      obtain ⟨fBKo_0, fBKo_1, fBKo_2, fBKo_3, fBKo_4, fBKo_5, fBKo_6, fBKo_7, fBKo_8, fBKo_9⟩ := cells10 BKo.out
      obtain ⟨fBKz_0, fBKz_1, fBKz_2, fBKz_3, fBKz_4, fBKz_5, fBKz_6, fBKz_7, fBKz_8, fBKz_9⟩ := cells10 BKz.out
      obtain ⟨fBKa_0, fBKa_1, fBKa_2⟩ := cells3 BKa.out
      unfold opT opC
      by_cases e2 : cd2 = 0
      · skip
        subst e2
        go_wp2_with fail
        have hb := below_alloc (Below.refl (World.heap w4).size w4) (.cells #[.int .i64 ok, .int .u64 okey, .int .u32 ox, .int .u32 oy, .string ov, .int .u32 op0, .int .u32 op1, .int .u32 op2, .int .u32 op3, .int .i64 on] 27 (0, 0))
        have BKq := Aside0.mk (heap_alloc_new w4 (.cells #[.int .i64 ok, .int .u64 okey, .int .u32 ox, .int .u32 oy, .string ov, .int .u32 op0, .int .u32 op1, .int .u32 op2, .int .u32 op3, .int .i64 on] 27 (0, 0)))
        have Hn_ : Aside0 ((World.alloc w4 (.cells #[.int .i64 ok, .int .u64 okey, .int .u32 ox, .int .u32 oy, .string ov, .int .u32 op0, .int .u32 op1, .int .u32 op2, .int .u32 op3, .int .i64 on] 27 (0, 0))).heap.size = (World.heap w4).size + 1) := ⟨by simp⟩
        try clear Hz_
        replace HB := Aside0.mk (below_step HB.out hb)
        replace BKo := Aside0.mk (blk_below BKo.out hb)
        replace BKz := Aside0.mk (blk_below BKz.out hb)
        replace BKa := Aside0.mk (blk_below BKa.out hb)
        replace hCA := Aside0.mk (Kd.C_below hCA.out hb)
        replace hC1 := Aside0.mk (Kd.C_below hC1.out hb)
        replace hC2 := Aside0.mk (Kd.C_below hC2.out hb)
        clear hb
        generalize World.alloc w4 (.cells #[.int .i64 ok, .int .u64 okey, .int .u32 ox, .int .u32 oy, .string ov, .int .u32 op0, .int .u32 op1, .int .u32 op2, .int .u32 op3, .int .i64 on] 27 (0, 0)) = wb4 at HB BKo BKz BKa hCA hC1 hC2 BKq Hn_ ⊢
        have Hz_ := Hn_
        clear Hn_
        clear Hz_
        clear fBKo_0 fBKo_1 fBKo_2 fBKo_3 fBKo_4 fBKo_5 fBKo_6 fBKo_7 fBKo_8 fBKo_9 fBKz_0 fBKz_1 fBKz_2 fBKz_3 fBKz_4 fBKz_5 fBKz_6 fBKz_7 fBKz_8 fBKz_9 fBKa_0 fBKa_1 fBKa_2
        have hb := below_drew1 (Below.refl (World.heap wb4).size wb4)
        replace HB := Aside0.mk (below_step HB.out hb)
        replace BKo := Aside0.mk (blk_below BKo.out hb)
        replace BKz := Aside0.mk (blk_below BKz.out hb)
        replace BKa := Aside0.mk (blk_below BKa.out hb)
        replace BKq := Aside0.mk (blk_below BKq.out hb)
        replace hCA := Aside0.mk (Kd.C_below hCA.out hb)
        replace hC1 := Aside0.mk (Kd.C_below hC1.out hb)
        replace hC2 := Aside0.mk (Kd.C_below hC2.out hb)
        clear hb
        refine start_ (n := 20) (S := fun w' => w'.cell? ⟨(World.heap W).size, 0, none⟩ = some (.int .i64 ok) ∧ w'.cell? ⟨(World.heap W).size, 1, none⟩ = some (.int .u64 okey) ∧ w'.cell? ⟨(World.heap W).size, 2, none⟩ = some (.int .u32 ox) ∧ w'.cell? ⟨(World.heap W).size, 3, none⟩ = some (.int .u32 oy) ∧ w'.cell? ⟨(World.heap W).size, 4, none⟩ = some (.string ov) ∧ w'.cell? ⟨(World.heap W).size, 5, none⟩ = some (.int .u32 op0) ∧ w'.cell? ⟨(World.heap W).size, 6, none⟩ = some (.int .u32 op1) ∧ w'.cell? ⟨(World.heap W).size, 7, none⟩ = some (.int .u32 op2) ∧ w'.cell? ⟨(World.heap W).size, 8, none⟩ = some (.int .u32 op3) ∧ w'.cell? ⟨(World.heap W).size, 9, none⟩ = some (.int .i64 on) ∧ w'.cell? ⟨(World.heap W).size + 1, 0, none⟩ = some (.int .i64 zk) ∧ w'.cell? ⟨(World.heap W).size + 1, 1, none⟩ = some (.int .u64 zkey) ∧ w'.cell? ⟨(World.heap W).size + 1, 2, none⟩ = some (.int .u32 zx) ∧ w'.cell? ⟨(World.heap W).size + 1, 3, none⟩ = some (.int .u32 zy) ∧ w'.cell? ⟨(World.heap W).size + 1, 4, none⟩ = some (.string zv) ∧ w'.cell? ⟨(World.heap W).size + 1, 5, none⟩ = some (.int .u32 zp0) ∧ w'.cell? ⟨(World.heap W).size + 1, 6, none⟩ = some (.int .u32 zp1) ∧ w'.cell? ⟨(World.heap W).size + 1, 7, none⟩ = some (.int .u32 zp2) ∧ w'.cell? ⟨(World.heap W).size + 1, 8, none⟩ = some (.int .u32 zp3) ∧ w'.cell? ⟨(World.heap W).size + 1, 9, none⟩ = some (.int .i64 zn) ∧ w'.cell? ⟨(World.heap w4).size, 0, none⟩ = some (.int .i64 ok) ∧ w'.cell? ⟨(World.heap w4).size, 1, none⟩ = some (.int .u64 okey) ∧ w'.cell? ⟨(World.heap w4).size, 2, none⟩ = some (.int .u32 ox) ∧ w'.cell? ⟨(World.heap w4).size, 3, none⟩ = some (.int .u32 oy) ∧ w'.cell? ⟨(World.heap w4).size, 4, none⟩ = some (.string ov) ∧ w'.cell? ⟨(World.heap w4).size, 5, none⟩ = some (.int .u32 op0) ∧ w'.cell? ⟨(World.heap w4).size, 6, none⟩ = some (.int .u32 op1) ∧ w'.cell? ⟨(World.heap w4).size, 7, none⟩ = some (.int .u32 op2) ∧ w'.cell? ⟨(World.heap w4).size, 8, none⟩ = some (.int .u32 op3) ∧ w'.cell? ⟨(World.heap w4).size, 9, none⟩ = some (.int .i64 on)) (ds := []) #[false, false, false, false, false, false, false, false, false, false, false, false, false, false, false, false, false, false, false, false] (by kernel_rfl) rfl rfl ⟨(blk_cell BKo.out 0).trans rfl, (blk_cell BKo.out 1).trans rfl, (blk_cell BKo.out 2).trans rfl, (blk_cell BKo.out 3).trans rfl, (blk_cell BKo.out 4).trans rfl, (blk_cell BKo.out 5).trans rfl, (blk_cell BKo.out 6).trans rfl, (blk_cell BKo.out 7).trans rfl, (blk_cell BKo.out 8).trans rfl, (blk_cell BKo.out 9).trans rfl, (blk_cell BKz.out 0).trans rfl, (blk_cell BKz.out 1).trans rfl, (blk_cell BKz.out 2).trans rfl, (blk_cell BKz.out 3).trans rfl, (blk_cell BKz.out 4).trans rfl, (blk_cell BKz.out 5).trans rfl, (blk_cell BKz.out 6).trans rfl, (blk_cell BKz.out 7).trans rfl, (blk_cell BKz.out 8).trans rfl, (blk_cell BKz.out 9).trans rfl, (blk_cell BKq.out 0).trans rfl, (blk_cell BKq.out 1).trans rfl, (blk_cell BKq.out 2).trans rfl, (blk_cell BKq.out 3).trans rfl, (blk_cell BKq.out 4).trans rfl, (blk_cell BKq.out 5).trans rfl, (blk_cell BKq.out 6).trans rfl, (blk_cell BKq.out 7).trans rfl, (blk_cell BKq.out 8).trans rfl, (blk_cell BKq.out 9).trans rfl⟩ (fun hHeld => ?_)
        refine with_tabW counterpanelaw33_ParcelBack.tab7 counterpanelaw33_ParcelBack.bits7 (fun HT_ HW_ => ?_)
        generalize World.drew wb4 = wd at HB BKo BKz BKa BKq hCA hC1 hC2 hHeld ⊢
        refine pure_ (i := 0) (N := some 50) (v := ?_) (a' := ?_) #[true, false, false, false, false, false, false, false, false, false, false, false, false, false, false, false, false, false, false, false] rfl rfl (any_of HT_.out (by kernel_rfl)) (fun _ _ _ h => h) (Or.inl ⟨by rfl, ?_⟩) ?_ ?_
        rotate_left
        · intro w'
          go_simp
          with_reducible rfl
        rotate_left
        · simp only [Act.put, List.setIfInBounds_toArray, List.set_cons_zero, List.set_cons_succ, i64_w, i32_w]
          rfl
        refine pure_ (i := 1) (N := some 51) (v := ?_) (a' := ?_) #[true, true, false, false, false, false, false, false, false, false, false, false, false, false, false, false, false, false, false, false] rfl rfl (any_of HT_.out (by kernel_rfl)) (fun _ _ _ h => h) (Or.inl ⟨by rfl, ?_⟩) ?_ ?_
        rotate_left
        · intro w'
          go_simp
          with_reducible rfl
        rotate_left
        · simp only [Act.put, List.setIfInBounds_toArray, List.set_cons_zero, List.set_cons_succ, i64_w, i32_w]
          rfl
        refine pure_ (i := 2) (N := some 52) (v := ?_) (a' := ?_) #[true, true, true, false, false, false, false, false, false, false, false, false, false, false, false, false, false, false, false, false] rfl rfl (any_of HT_.out (by kernel_rfl)) (fun _ _ _ h => h) (Or.inl ⟨by rfl, ?_⟩) ?_ ?_
        rotate_left
        · intro w'
          go_simp
          with_reducible rfl
        rotate_left
        · simp only [Act.put, List.setIfInBounds_toArray, List.set_cons_zero, List.set_cons_succ, i64_w, i32_w]
          rfl
        refine take_ (i := 3) (N := some 53) (v := ?_) (a' := ?_) #[true, true, true, true, false, false, false, false, false, false, false, false, false, false, false, false, false, false, false, false] rfl rfl (take_ofW HT_.out HW_.out (by kernel_rfl)) (fun _ _ _ h => h) (Or.inl ⟨by rfl, ?_⟩) hHeld ?_ ?_
        rotate_left
        · rintro w' ⟨s0, s1, s2, s3, s4, s5, s6, s7, s8, s9, s10, s11, s12, s13, s14, s15, s16, s17, s18, s19, s20, s21, s22, s23, s24, s25, s26, s27, s28, s29⟩
          go_simp
          with_reducible rfl
        rotate_left
        · simp only [Act.put, List.setIfInBounds_toArray, List.set_cons_zero, List.set_cons_succ, i64_w, i32_w]
          rfl
        refine take_ (i := 4) (N := some 54) (v := ?_) (a' := ?_) #[true, true, true, true, true, false, false, false, false, false, false, false, false, false, false, false, false, false, false, false] rfl rfl (take_ofW HT_.out HW_.out (by kernel_rfl)) (fun _ _ _ h => h) (Or.inl ⟨by rfl, ?_⟩) hHeld ?_ ?_
        rotate_left
        · rintro w' ⟨s0, s1, s2, s3, s4, s5, s6, s7, s8, s9, s10, s11, s12, s13, s14, s15, s16, s17, s18, s19, s20, s21, s22, s23, s24, s25, s26, s27, s28, s29⟩
          go_simp
          with_reducible rfl
        rotate_left
        · simp only [Act.put, List.setIfInBounds_toArray, List.set_cons_zero, List.set_cons_succ, i64_w, i32_w]
          rfl
        refine pure_ (i := 5) (N := some 55) (v := ?_) (a' := ?_) #[true, true, true, true, true, true, false, false, false, false, false, false, false, false, false, false, false, false, false, false] rfl rfl (any_of HT_.out (by kernel_rfl)) (fun _ _ _ h => h) (Or.inl ⟨by rfl, ?_⟩) ?_ ?_
        rotate_left
        · intro w'
          go_simp
          with_reducible rfl
        rotate_left
        · simp only [Act.put, List.setIfInBounds_toArray, List.set_cons_zero, List.set_cons_succ, i64_w, i32_w]
          rfl
        refine pure_ (i := 6) (N := some 56) (v := ?_) (a' := ?_) #[true, true, true, true, true, true, true, false, false, false, false, false, false, false, false, false, false, false, false, false] rfl rfl (any_of HT_.out (by kernel_rfl)) (fun _ _ _ h => h) (Or.inl ⟨by rfl, ?_⟩) ?_ ?_
        rotate_left
        · intro w'
          go_simp
          with_reducible rfl
        rotate_left
        · simp only [Act.put, List.setIfInBounds_toArray, List.set_cons_zero, List.set_cons_succ, i64_w, i32_w]
          rfl
        refine pure_ (i := 7) (N := some 57) (v := ?_) (a' := ?_) #[true, true, true, true, true, true, true, true, false, false, false, false, false, false, false, false, false, false, false, false] rfl rfl (any_of HT_.out (by kernel_rfl)) (fun _ _ _ h => h) (Or.inl ⟨by rfl, ?_⟩) ?_ ?_
        rotate_left
        · intro w'
          go_simp
          with_reducible rfl
        rotate_left
        · simp only [Act.put, List.setIfInBounds_toArray, List.set_cons_zero, List.set_cons_succ, i64_w, i32_w]
          rfl
        refine pure_ (i := 8) (N := some 58) (v := ?_) (a' := ?_) #[true, true, true, true, true, true, true, true, true, false, false, false, false, false, false, false, false, false, false, false] rfl rfl (any_of HT_.out (by kernel_rfl)) (fun _ _ _ h => h) (Or.inl ⟨by rfl, ?_⟩) ?_ ?_
        rotate_left
        · intro w'
          go_simp
          with_reducible rfl
        rotate_left
        · simp only [Act.put, List.setIfInBounds_toArray, List.set_cons_zero, List.set_cons_succ, i64_w, i32_w]
          rfl
        refine pure_ (i := 9) (N := some 59) (v := ?_) (a' := ?_) #[true, true, true, true, true, true, true, true, true, true, false, false, false, false, false, false, false, false, false, false] rfl rfl (any_of HT_.out (by kernel_rfl)) (fun _ _ _ h => h) (Or.inl ⟨by rfl, ?_⟩) ?_ ?_
        rotate_left
        · intro w'
          go_simp
          with_reducible rfl
        rotate_left
        · simp only [Act.put, List.setIfInBounds_toArray, List.set_cons_zero, List.set_cons_succ, i64_w, i32_w]
          rfl
        refine pure_ (i := 10) (N := some 60) (v := ?_) (a' := ?_) #[true, true, true, true, true, true, true, true, true, true, true, false, false, false, false, false, false, false, false, false] rfl rfl (any_of HT_.out (by kernel_rfl)) (fun _ _ _ h => h) (Or.inl ⟨by rfl, ?_⟩) ?_ ?_
        rotate_left
        · intro w'
          go_simp
          with_reducible rfl
        rotate_left
        · simp only [Act.put, List.setIfInBounds_toArray, List.set_cons_zero, List.set_cons_succ, i64_w, i32_w]
          rfl
        refine pure_ (i := 11) (N := some 61) (v := ?_) (a' := ?_) #[true, true, true, true, true, true, true, true, true, true, true, true, false, false, false, false, false, false, false, false] rfl rfl (any_of HT_.out (by kernel_rfl)) (fun _ _ _ h => h) (Or.inl ⟨by rfl, ?_⟩) ?_ ?_
        rotate_left
        · intro w'
          go_simp
          with_reducible rfl
        rotate_left
        · simp only [Act.put, List.setIfInBounds_toArray, List.set_cons_zero, List.set_cons_succ, i64_w, i32_w]
          rfl
        refine pure_ (i := 12) (N := some 62) (v := ?_) (a' := ?_) #[true, true, true, true, true, true, true, true, true, true, true, true, true, false, false, false, false, false, false, false] rfl rfl (any_of HT_.out (by kernel_rfl)) (fun _ _ _ h => h) (Or.inl ⟨by rfl, ?_⟩) ?_ ?_
        rotate_left
        · intro w'
          go_simp
          with_reducible rfl
        rotate_left
        · simp only [Act.put, List.setIfInBounds_toArray, List.set_cons_zero, List.set_cons_succ, i64_w, i32_w]
          rfl
        refine take_ (i := 14) (N := some 64) (v := ?_) (a' := ?_) #[true, true, true, true, true, true, true, true, true, true, true, true, true, false, true, false, false, false, false, false] rfl rfl (take_ofW HT_.out HW_.out (by kernel_rfl)) (fun _ _ _ h => h) (Or.inl ⟨by rfl, ?_⟩) hHeld ?_ ?_
        rotate_left
        · rintro w' ⟨s0, s1, s2, s3, s4, s5, s6, s7, s8, s9, s10, s11, s12, s13, s14, s15, s16, s17, s18, s19, s20, s21, s22, s23, s24, s25, s26, s27, s28, s29⟩
          go_simp
          with_reducible rfl
        rotate_left
        · simp only [Act.put, List.setIfInBounds_toArray, List.set_cons_zero, List.set_cons_succ, i64_w, i32_w]
          rfl
        refine take_ (i := 15) (N := some 65) (v := ?_) (a' := ?_) #[true, true, true, true, true, true, true, true, true, true, true, true, true, false, true, true, false, false, false, false] rfl rfl (take_ofW HT_.out HW_.out (by kernel_rfl)) (fun _ _ _ h => h) (Or.inl ⟨by rfl, ?_⟩) hHeld ?_ ?_
        rotate_left
        · rintro w' ⟨s0, s1, s2, s3, s4, s5, s6, s7, s8, s9, s10, s11, s12, s13, s14, s15, s16, s17, s18, s19, s20, s21, s22, s23, s24, s25, s26, s27, s28, s29⟩
          go_simp
          with_reducible rfl
        rotate_left
        · simp only [Act.put, List.setIfInBounds_toArray, List.set_cons_zero, List.set_cons_succ, i64_w, i32_w]
          rfl
        refine pure_ (i := 16) (N := some 66) (v := ?_) (a' := ?_) #[true, true, true, true, true, true, true, true, true, true, true, true, true, false, true, true, true, false, false, false] rfl rfl (any_of HT_.out (by kernel_rfl)) (fun _ _ _ h => h) (Or.inl ⟨by rfl, ?_⟩) ?_ ?_
        rotate_left
        · intro w'
          go_simp
          with_reducible rfl
        rotate_left
        · simp only [Act.put, List.setIfInBounds_toArray, List.set_cons_zero, List.set_cons_succ, i64_w, i32_w]
          rfl
        refine one_ (i := 13) (N := some 63) #[true, true, true, true, true, true, true, true, true, true, true, true, true, true, true, true, true, false, false, false] rfl rfl (one_of HT_.out (by kernel_rfl)) (by decide) (fun K hK => ?_)
        refine goes_ Try.func13 (by kernel_rfl) rfl #[.slice A1 X.length c1, .slice A2 X2.length c2] (by rfl) rfl rfl (by simp only [List.map_toArray, List.map_cons, List.map_nil]; rfl) ?_
        with_reducible refine (sameE A1 c1 _ X A2 c2 _ X2 _ rfl rfl hC1.out hc1 hC2.out hc2 (HX.out.1 ▸ (encT_bytes _).1) (HX2.out.1 ▸ (encT_bytes _).1) _ (chain_iff W HX.out.1 HX2.out.1 HOK.out HOK2.out HX.out.2.symm HX2.out.2.symm)).mono ?_
        rintro e w5 ⟨rfl, hb5⟩
        refine ⟨_, rfl, ?_⟩
        replace HB := Aside0.mk (below_step HB.out hb5)
        replace BKo := Aside0.mk (blk_below BKo.out hb5)
        replace BKz := Aside0.mk (blk_below BKz.out hb5)
        replace BKa := Aside0.mk (blk_below BKa.out hb5)
        replace BKq := Aside0.mk (blk_below BKq.out hb5)
        replace hCA := Aside0.mk (Kd.C_below hCA.out hb5)
        replace hC1 := Aside0.mk (Kd.C_below hC1.out hb5)
        replace hC2 := Aside0.mk (Kd.C_below hC2.out hb5)
        clear hb5
        refine hK.out _ _ ⟨(blk_cell BKo.out 0).trans rfl, (blk_cell BKo.out 1).trans rfl, (blk_cell BKo.out 2).trans rfl, (blk_cell BKo.out 3).trans rfl, (blk_cell BKo.out 4).trans rfl, (blk_cell BKo.out 5).trans rfl, (blk_cell BKo.out 6).trans rfl, (blk_cell BKo.out 7).trans rfl, (blk_cell BKo.out 8).trans rfl, (blk_cell BKo.out 9).trans rfl, (blk_cell BKz.out 0).trans rfl, (blk_cell BKz.out 1).trans rfl, (blk_cell BKz.out 2).trans rfl, (blk_cell BKz.out 3).trans rfl, (blk_cell BKz.out 4).trans rfl, (blk_cell BKz.out 5).trans rfl, (blk_cell BKz.out 6).trans rfl, (blk_cell BKz.out 7).trans rfl, (blk_cell BKz.out 8).trans rfl, (blk_cell BKz.out 9).trans rfl, (blk_cell BKq.out 0).trans rfl, (blk_cell BKq.out 1).trans rfl, (blk_cell BKq.out 2).trans rfl, (blk_cell BKq.out 3).trans rfl, (blk_cell BKq.out 4).trans rfl, (blk_cell BKq.out 5).trans rfl, (blk_cell BKq.out 6).trans rfl, (blk_cell BKq.out 7).trans rfl, (blk_cell BKq.out 8).trans rfl, (blk_cell BKq.out 9).trans rfl⟩ (fun hHeld => ?_)
        clear hK K
        refine norm_ (a' := ?_) ?_ ?_
        rotate_left
        · show Act.put _ (some 63) _ = _
          simp only [Act.put, List.setIfInBounds_toArray, List.set_cons_zero, List.set_cons_succ, i64_w, i32_w]
          rfl
        refine pure_ (i := 17) (N := some 67) (v := ?_) (a' := ?_) #[true, true, true, true, true, true, true, true, true, true, true, true, true, true, true, true, true, true, false, false] rfl rfl (any_of HT_.out (by kernel_rfl)) (fun _ _ _ h => h) (Or.inl ⟨by rfl, ?_⟩) ?_ ?_
        rotate_left
        · intro w'
          go_simp
          with_reducible rfl
        rotate_left
        · simp only [Act.put, List.setIfInBounds_toArray, List.set_cons_zero, List.set_cons_succ, i64_w, i32_w]
          rfl
        refine pure_ (i := 18) (N := some 68) (v := ?_) (a' := ?_) #[true, true, true, true, true, true, true, true, true, true, true, true, true, true, true, true, true, true, true, false] rfl rfl (any_of HT_.out (by kernel_rfl)) (fun _ _ _ h => h) (Or.inl ⟨by rfl, ?_⟩) ?_ ?_
        rotate_left
        · intro w'
          go_simp
          with_reducible rfl
        rotate_left
        · simp only [Act.put, List.setIfInBounds_toArray, List.set_cons_zero, List.set_cons_succ, i64_w, i32_w]
          rfl
        refine pure_ (i := 19) (N := some 69) (v := ?_) (a' := ?_) #[true, true, true, true, true, true, true, true, true, true, true, true, true, true, true, true, true, true, true, true] rfl rfl (any_of HT_.out (by kernel_rfl)) (fun _ _ _ h => h) (Or.inl ⟨by rfl, ?_⟩) ?_ ?_
        rotate_left
        · intro w'
          go_simp
          with_reducible rfl
        rotate_left
        · simp only [Act.put, List.setIfInBounds_toArray, List.set_cons_zero, List.set_cons_succ, i64_w, i32_w]
          rfl
        refine done_ (done_of HT_.out (by kernel_rfl)) ?_
        obtain ⟨fBKa_0, fBKa_1, fBKa_2⟩ := cells3 BKa.out
        go_wp2_with fail
        refine (ansE a AA cA _ _ rfl hCA.out hcA HRS.out Y ca HY.out.1 HY.out.2).mono ?_
        rintro e w6 ⟨A3, c3, rfl, hc3, hC3, hb⟩
        replace HB := Aside0.mk (below_step HB.out hb)
        replace BKo := Aside0.mk (blk_below BKo.out hb)
        replace BKz := Aside0.mk (blk_below BKz.out hb)
        replace BKa := Aside0.mk (blk_below BKa.out hb)
        replace BKq := Aside0.mk (blk_below BKq.out hb)
        replace hCA := Aside0.mk (Kd.C_below hCA.out hb)
        replace hC1 := Aside0.mk (Kd.C_below hC1.out hb)
        replace hC2 := Aside0.mk (Kd.C_below hC2.out hb)
        clear hb
        replace hC3 := Aside0.mk hC3
        clear fBKa_0 fBKa_1 fBKa_2
        by_cases e3 : ca = 0
        · skip
          subst e3
          go_wp2_with fail
          refine (isAnsE A3 c3 _ Y _ rfl hC3.out hc3 (HY.out.1 ▸ (encA_bytes _).1) (by rw [HY.out.1]; exact Nat.le_trans (encA_bytes _).2 (by omega)) a 0 (by rw [HY.out.1]; exact isAns_enc a HY.out.2.symm HN.out HRS.out)).mono ?_
          rintro e w7 ⟨A4, c4, rfl, hc4, hC4, hb⟩
          replace HB := Aside0.mk (below_step HB.out hb)
          replace BKo := Aside0.mk (blk_below BKo.out hb)
          replace BKz := Aside0.mk (blk_below BKz.out hb)
          replace BKa := Aside0.mk (blk_below BKa.out hb)
          replace BKq := Aside0.mk (blk_below BKq.out hb)
          replace hCA := Aside0.mk (Kd.C_below hCA.out hb)
          replace hC1 := Aside0.mk (Kd.C_below hC1.out hb)
          replace hC2 := Aside0.mk (Kd.C_below hC2.out hb)
          replace hC3 := Aside0.mk (Kd.C_below hC3.out hb)
          clear hb
          replace hC4 := Aside0.mk hC4
          obtain ⟨fBKa_0, fBKa_1, fBKa_2⟩ := cells3 (blk_below BKa.out (below_alloc (Below.refl (World.heap w7).size w7) (.cells #[.int .i64 a.code, .slice A4 a.recs.length c4, .int .i64 a.n] 31 (0, 0))))
          go_wp2_with fail
          clear fBKa_0 fBKa_1 fBKa_2
          have hb := below_alloc (Below.refl (World.heap w7).size w7) (.cells #[.int .i64 a.code, .slice A4 a.recs.length c4, .int .i64 a.n] 31 (0, 0))
          have BKr := Aside0.mk (heap_alloc_new w7 (.cells #[.int .i64 a.code, .slice A4 a.recs.length c4, .int .i64 a.n] 31 (0, 0)))
          have Hn_ : Aside0 ((World.alloc w7 (.cells #[.int .i64 a.code, .slice A4 a.recs.length c4, .int .i64 a.n] 31 (0, 0))).heap.size = (World.heap w7).size + 1) := ⟨by simp⟩
          try clear Hz_
          replace HB := Aside0.mk (below_step HB.out hb)
          replace BKo := Aside0.mk (blk_below BKo.out hb)
          replace BKz := Aside0.mk (blk_below BKz.out hb)
          replace BKa := Aside0.mk (blk_below BKa.out hb)
          replace BKq := Aside0.mk (blk_below BKq.out hb)
          replace hCA := Aside0.mk (Kd.C_below hCA.out hb)
          replace hC1 := Aside0.mk (Kd.C_below hC1.out hb)
          replace hC2 := Aside0.mk (Kd.C_below hC2.out hb)
          replace hC3 := Aside0.mk (Kd.C_below hC3.out hb)
          replace hC4 := Aside0.mk (Kd.C_below hC4.out hb)
          clear hb
          generalize World.alloc w7 (.cells #[.int .i64 a.code, .slice A4 a.recs.length c4, .int .i64 a.n] 31 (0, 0)) = wb5 at HB BKo BKz BKa BKq hCA hC1 hC2 hC3 hC4 BKr Hn_ ⊢
          have Hz_ := Hn_
          clear Hn_
          clear Hz_
          refine (same21E a AA cA _ A4 c4 _ _ rfl rfl hCA.out hcA hC4.out hc4 (by have h1_ := hLs.out.1; omega)).mono ?_
          rintro e w8 ⟨rfl, hb⟩
          replace HB := Aside0.mk (below_step HB.out hb)
          replace BKo := Aside0.mk (blk_below BKo.out hb)
          replace BKz := Aside0.mk (blk_below BKz.out hb)
          replace BKa := Aside0.mk (blk_below BKa.out hb)
          replace BKq := Aside0.mk (blk_below BKq.out hb)
          replace BKr := Aside0.mk (blk_below BKr.out hb)
          replace hCA := Aside0.mk (Kd.C_below hCA.out hb)
          replace hC1 := Aside0.mk (Kd.C_below hC1.out hb)
          replace hC2 := Aside0.mk (Kd.C_below hC2.out hb)
          replace hC3 := Aside0.mk (Kd.C_below hC3.out hb)
          replace hC4 := Aside0.mk (Kd.C_below hC4.out hb)
          clear hb
          go_wp2_with (go_at_call 8; refine (works_c _).mono ?_; rintro e w9 ⟨rfl, hb9⟩)
          go_ret
          exact ⟨rfl, below_step HB.out hb9⟩
        · skip
          have e3b : (ca == 0) = false := by simp [e3]
          replace e3 := eq_false e3
          go_wp2_with (go_at_call 8; refine (works_c _).mono ?_; rintro e w9 ⟨rfl, hb9⟩)
          go_ret
          exact ⟨rfl, below_step HB.out hb9⟩
      · skip
        have e2b : (cd2 == 0) = false := by simp [e2]
        replace e2 := eq_false e2
        go_wp2_with fail
        have hb := below_alloc (Below.refl (World.heap w4).size w4) (.cells #[.int .i64 ok, .int .u64 okey, .int .u32 ox, .int .u32 oy, .string ov, .int .u32 op0, .int .u32 op1, .int .u32 op2, .int .u32 op3, .int .i64 on] 27 (0, 0))
        have BKq := Aside0.mk (heap_alloc_new w4 (.cells #[.int .i64 ok, .int .u64 okey, .int .u32 ox, .int .u32 oy, .string ov, .int .u32 op0, .int .u32 op1, .int .u32 op2, .int .u32 op3, .int .i64 on] 27 (0, 0)))
        have Hn_ : Aside0 ((World.alloc w4 (.cells #[.int .i64 ok, .int .u64 okey, .int .u32 ox, .int .u32 oy, .string ov, .int .u32 op0, .int .u32 op1, .int .u32 op2, .int .u32 op3, .int .i64 on] 27 (0, 0))).heap.size = (World.heap w4).size + 1) := ⟨by simp⟩
        try clear Hz_
        replace HB := Aside0.mk (below_step HB.out hb)
        replace BKo := Aside0.mk (blk_below BKo.out hb)
        replace BKz := Aside0.mk (blk_below BKz.out hb)
        replace BKa := Aside0.mk (blk_below BKa.out hb)
        replace hCA := Aside0.mk (Kd.C_below hCA.out hb)
        replace hC1 := Aside0.mk (Kd.C_below hC1.out hb)
        replace hC2 := Aside0.mk (Kd.C_below hC2.out hb)
        clear hb
        generalize World.alloc w4 (.cells #[.int .i64 ok, .int .u64 okey, .int .u32 ox, .int .u32 oy, .string ov, .int .u32 op0, .int .u32 op1, .int .u32 op2, .int .u32 op3, .int .i64 on] 27 (0, 0)) = wb4 at HB BKo BKz BKa hCA hC1 hC2 BKq Hn_ ⊢
        have Hz_ := Hn_
        clear Hn_
        clear Hz_
        clear fBKo_0 fBKo_1 fBKo_2 fBKo_3 fBKo_4 fBKo_5 fBKo_6 fBKo_7 fBKo_8 fBKo_9 fBKz_0 fBKz_1 fBKz_2 fBKz_3 fBKz_4 fBKz_5 fBKz_6 fBKz_7 fBKz_8 fBKz_9 fBKa_0 fBKa_1 fBKa_2
        have hb := below_drew1 (Below.refl (World.heap wb4).size wb4)
        replace HB := Aside0.mk (below_step HB.out hb)
        replace BKo := Aside0.mk (blk_below BKo.out hb)
        replace BKz := Aside0.mk (blk_below BKz.out hb)
        replace BKa := Aside0.mk (blk_below BKa.out hb)
        replace BKq := Aside0.mk (blk_below BKq.out hb)
        replace hCA := Aside0.mk (Kd.C_below hCA.out hb)
        replace hC1 := Aside0.mk (Kd.C_below hC1.out hb)
        replace hC2 := Aside0.mk (Kd.C_below hC2.out hb)
        clear hb
        refine start_ (n := 20) (S := fun w' => w'.cell? ⟨(World.heap W).size, 0, none⟩ = some (.int .i64 ok) ∧ w'.cell? ⟨(World.heap W).size, 1, none⟩ = some (.int .u64 okey) ∧ w'.cell? ⟨(World.heap W).size, 2, none⟩ = some (.int .u32 ox) ∧ w'.cell? ⟨(World.heap W).size, 3, none⟩ = some (.int .u32 oy) ∧ w'.cell? ⟨(World.heap W).size, 4, none⟩ = some (.string ov) ∧ w'.cell? ⟨(World.heap W).size, 5, none⟩ = some (.int .u32 op0) ∧ w'.cell? ⟨(World.heap W).size, 6, none⟩ = some (.int .u32 op1) ∧ w'.cell? ⟨(World.heap W).size, 7, none⟩ = some (.int .u32 op2) ∧ w'.cell? ⟨(World.heap W).size, 8, none⟩ = some (.int .u32 op3) ∧ w'.cell? ⟨(World.heap W).size, 9, none⟩ = some (.int .i64 on) ∧ w'.cell? ⟨(World.heap w4).size, 0, none⟩ = some (.int .i64 ok) ∧ w'.cell? ⟨(World.heap w4).size, 1, none⟩ = some (.int .u64 okey) ∧ w'.cell? ⟨(World.heap w4).size, 2, none⟩ = some (.int .u32 ox) ∧ w'.cell? ⟨(World.heap w4).size, 3, none⟩ = some (.int .u32 oy) ∧ w'.cell? ⟨(World.heap w4).size, 4, none⟩ = some (.string ov) ∧ w'.cell? ⟨(World.heap w4).size, 5, none⟩ = some (.int .u32 op0) ∧ w'.cell? ⟨(World.heap w4).size, 6, none⟩ = some (.int .u32 op1) ∧ w'.cell? ⟨(World.heap w4).size, 7, none⟩ = some (.int .u32 op2) ∧ w'.cell? ⟨(World.heap w4).size, 8, none⟩ = some (.int .u32 op3) ∧ w'.cell? ⟨(World.heap w4).size, 9, none⟩ = some (.int .i64 on)) (ds := []) #[false, false, false, false, false, false, false, false, false, false, false, false, false, false, false, false, false, false, false, false] (by kernel_rfl) rfl rfl ⟨(blk_cell BKo.out 0).trans rfl, (blk_cell BKo.out 1).trans rfl, (blk_cell BKo.out 2).trans rfl, (blk_cell BKo.out 3).trans rfl, (blk_cell BKo.out 4).trans rfl, (blk_cell BKo.out 5).trans rfl, (blk_cell BKo.out 6).trans rfl, (blk_cell BKo.out 7).trans rfl, (blk_cell BKo.out 8).trans rfl, (blk_cell BKo.out 9).trans rfl, (blk_cell BKq.out 0).trans rfl, (blk_cell BKq.out 1).trans rfl, (blk_cell BKq.out 2).trans rfl, (blk_cell BKq.out 3).trans rfl, (blk_cell BKq.out 4).trans rfl, (blk_cell BKq.out 5).trans rfl, (blk_cell BKq.out 6).trans rfl, (blk_cell BKq.out 7).trans rfl, (blk_cell BKq.out 8).trans rfl, (blk_cell BKq.out 9).trans rfl⟩ (fun hHeld => ?_)
        refine with_tabW counterpanelaw33_ParcelBack.tab7 counterpanelaw33_ParcelBack.bits7 (fun HT_ HW_ => ?_)
        generalize World.drew wb4 = wd at HB BKo BKz BKa BKq hCA hC1 hC2 hHeld ⊢
        refine pure_ (i := 0) (N := some 50) (v := ?_) (a' := ?_) #[true, false, false, false, false, false, false, false, false, false, false, false, false, false, false, false, false, false, false, false] rfl rfl (any_of HT_.out (by kernel_rfl)) (fun _ _ _ h => h) (Or.inl ⟨by rfl, ?_⟩) ?_ ?_
        rotate_left
        · intro w'
          go_simp
          with_reducible rfl
        rotate_left
        · simp only [Act.put, List.setIfInBounds_toArray, List.set_cons_zero, List.set_cons_succ, i64_w, i32_w]
          rfl
        refine pure_ (i := 1) (N := some 51) (v := ?_) (a' := ?_) #[true, true, false, false, false, false, false, false, false, false, false, false, false, false, false, false, false, false, false, false] rfl rfl (any_of HT_.out (by kernel_rfl)) (fun _ _ _ h => h) (Or.inl ⟨by rfl, ?_⟩) ?_ ?_
        rotate_left
        · intro w'
          go_simp
          with_reducible rfl
        rotate_left
        · simp only [Act.put, List.setIfInBounds_toArray, List.set_cons_zero, List.set_cons_succ, i64_w, i32_w]
          rfl
        refine pure_ (i := 2) (N := some 52) (v := ?_) (a' := ?_) #[true, true, true, false, false, false, false, false, false, false, false, false, false, false, false, false, false, false, false, false] rfl rfl (any_of HT_.out (by kernel_rfl)) (fun _ _ _ h => h) (Or.inl ⟨by rfl, ?_⟩) ?_ ?_
        rotate_left
        · intro w'
          go_simp
          with_reducible rfl
        rotate_left
        · simp only [Act.put, List.setIfInBounds_toArray, List.set_cons_zero, List.set_cons_succ, i64_w, i32_w]
          rfl
        refine take_ (i := 3) (N := some 53) (v := ?_) (a' := ?_) #[true, true, true, true, false, false, false, false, false, false, false, false, false, false, false, false, false, false, false, false] rfl rfl (take_ofW HT_.out HW_.out (by kernel_rfl)) (fun _ _ _ h => h) (Or.inl ⟨by rfl, ?_⟩) hHeld ?_ ?_
        rotate_left
        · rintro w' ⟨s0, s1, s2, s3, s4, s5, s6, s7, s8, s9, s10, s11, s12, s13, s14, s15, s16, s17, s18, s19⟩
          go_simp
          with_reducible rfl
        rotate_left
        · simp only [Act.put, List.setIfInBounds_toArray, List.set_cons_zero, List.set_cons_succ, i64_w, i32_w]
          rfl
        refine take_ (i := 4) (N := some 54) (v := ?_) (a' := ?_) #[true, true, true, true, true, false, false, false, false, false, false, false, false, false, false, false, false, false, false, false] rfl rfl (take_ofW HT_.out HW_.out (by kernel_rfl)) (fun _ _ _ h => h) (Or.inl ⟨by rfl, ?_⟩) hHeld ?_ ?_
        rotate_left
        · rintro w' ⟨s0, s1, s2, s3, s4, s5, s6, s7, s8, s9, s10, s11, s12, s13, s14, s15, s16, s17, s18, s19⟩
          go_simp
          with_reducible rfl
        rotate_left
        · simp only [Act.put, List.setIfInBounds_toArray, List.set_cons_zero, List.set_cons_succ, i64_w, i32_w]
          rfl
        refine pure_ (i := 5) (N := some 55) (v := ?_) (a' := ?_) #[true, true, true, true, true, true, false, false, false, false, false, false, false, false, false, false, false, false, false, false] rfl rfl (any_of HT_.out (by kernel_rfl)) (fun _ _ _ h => h) (Or.inl ⟨by rfl, ?_⟩) ?_ ?_
        rotate_left
        · intro w'
          go_simp
          with_reducible rfl
        rotate_left
        · simp only [Act.put, List.setIfInBounds_toArray, List.set_cons_zero, List.set_cons_succ, i64_w, i32_w]
          rfl
        refine pure_ (i := 6) (N := some 56) (v := ?_) (a' := ?_) #[true, true, true, true, true, true, true, false, false, false, false, false, false, false, false, false, false, false, false, false] rfl rfl (any_of HT_.out (by kernel_rfl)) (fun _ _ _ h => h) (Or.inl ⟨by rfl, ?_⟩) ?_ ?_
        rotate_left
        · intro w'
          go_simp
          with_reducible rfl
        rotate_left
        · simp only [Act.put, List.setIfInBounds_toArray, List.set_cons_zero, List.set_cons_succ, i64_w, i32_w]
          rfl
        refine pure_ (i := 7) (N := some 57) (v := ?_) (a' := ?_) #[true, true, true, true, true, true, true, true, false, false, false, false, false, false, false, false, false, false, false, false] rfl rfl (any_of HT_.out (by kernel_rfl)) (fun _ _ _ h => h) (Or.inl ⟨by rfl, ?_⟩) ?_ ?_
        rotate_left
        · intro w'
          go_simp
          with_reducible rfl
        rotate_left
        · simp only [Act.put, List.setIfInBounds_toArray, List.set_cons_zero, List.set_cons_succ, i64_w, i32_w]
          rfl
        refine pure_ (i := 8) (N := some 58) (v := ?_) (a' := ?_) #[true, true, true, true, true, true, true, true, true, false, false, false, false, false, false, false, false, false, false, false] rfl rfl (any_of HT_.out (by kernel_rfl)) (fun _ _ _ h => h) (Or.inl ⟨by rfl, ?_⟩) ?_ ?_
        rotate_left
        · intro w'
          go_simp
          with_reducible rfl
        rotate_left
        · simp only [Act.put, List.setIfInBounds_toArray, List.set_cons_zero, List.set_cons_succ, i64_w, i32_w]
          rfl
        refine pure_ (i := 9) (N := some 59) (v := ?_) (a' := ?_) #[true, true, true, true, true, true, true, true, true, true, false, false, false, false, false, false, false, false, false, false] rfl rfl (any_of HT_.out (by kernel_rfl)) (fun _ _ _ h => h) (Or.inl ⟨by rfl, ?_⟩) ?_ ?_
        rotate_left
        · intro w'
          go_simp
          with_reducible rfl
        rotate_left
        · simp only [Act.put, List.setIfInBounds_toArray, List.set_cons_zero, List.set_cons_succ, i64_w, i32_w]
          rfl
        refine pure_ (i := 10) (N := some 60) (v := ?_) (a' := ?_) #[true, true, true, true, true, true, true, true, true, true, true, false, false, false, false, false, false, false, false, false] rfl rfl (any_of HT_.out (by kernel_rfl)) (fun _ _ _ h => h) (Or.inl ⟨by rfl, ?_⟩) ?_ ?_
        rotate_left
        · intro w'
          go_simp
          with_reducible rfl
        rotate_left
        · simp only [Act.put, List.setIfInBounds_toArray, List.set_cons_zero, List.set_cons_succ, i64_w, i32_w]
          rfl
        refine pure_ (i := 11) (N := some 61) (v := undef) (a' := ?_) #[true, true, true, true, true, true, true, true, true, true, true, true, false, false, false, false, false, false, false, false] rfl rfl (any_of HT_.out (by kernel_rfl)) (fun _ _ _ h => h) (Or.inr ⟨by rfl, rfl⟩) ?_ ?_
        rotate_left
        · simp only [Act.put, List.setIfInBounds_toArray, List.set_cons_zero, List.set_cons_succ, i64_w, i32_w]
          rfl
        refine pure_ (i := 12) (N := some 62) (v := undef) (a' := ?_) #[true, true, true, true, true, true, true, true, true, true, true, true, true, false, false, false, false, false, false, false] rfl rfl (any_of HT_.out (by kernel_rfl)) (fun _ _ _ h => h) (Or.inr ⟨by rfl, rfl⟩) ?_ ?_
        rotate_left
        · simp only [Act.put, List.setIfInBounds_toArray, List.set_cons_zero, List.set_cons_succ, i64_w, i32_w]
          rfl
        refine pure_ (i := 13) (N := some 63) (v := undef) (a' := ?_) #[true, true, true, true, true, true, true, true, true, true, true, true, true, true, false, false, false, false, false, false] rfl rfl (any_of HT_.out (by kernel_rfl)) (fun _ _ _ h => h) (Or.inr ⟨by rfl, rfl⟩) ?_ ?_
        rotate_left
        · simp only [Act.put, List.setIfInBounds_toArray, List.set_cons_zero, List.set_cons_succ, i64_w, i32_w]
          rfl
        refine pure_ (i := 14) (N := some 64) (v := undef) (a' := ?_) #[true, true, true, true, true, true, true, true, true, true, true, true, true, true, true, false, false, false, false, false] rfl rfl (any_of HT_.out (by kernel_rfl)) (fun _ _ _ h => h) (Or.inr ⟨by rfl, rfl⟩) ?_ ?_
        rotate_left
        · simp only [Act.put, List.setIfInBounds_toArray, List.set_cons_zero, List.set_cons_succ, i64_w, i32_w]
          rfl
        refine pure_ (i := 15) (N := some 65) (v := undef) (a' := ?_) #[true, true, true, true, true, true, true, true, true, true, true, true, true, true, true, true, false, false, false, false] rfl rfl (any_of HT_.out (by kernel_rfl)) (fun _ _ _ h => h) (Or.inr ⟨by rfl, rfl⟩) ?_ ?_
        rotate_left
        · simp only [Act.put, List.setIfInBounds_toArray, List.set_cons_zero, List.set_cons_succ, i64_w, i32_w]
          rfl
        refine pure_ (i := 16) (N := some 66) (v := undef) (a' := ?_) #[true, true, true, true, true, true, true, true, true, true, true, true, true, true, true, true, true, false, false, false] rfl rfl (any_of HT_.out (by kernel_rfl)) (fun _ _ _ h => h) (Or.inr ⟨by rfl, rfl⟩) ?_ ?_
        rotate_left
        · simp only [Act.put, List.setIfInBounds_toArray, List.set_cons_zero, List.set_cons_succ, i64_w, i32_w]
          rfl
        refine pure_ (i := 17) (N := some 67) (v := undef) (a' := ?_) #[true, true, true, true, true, true, true, true, true, true, true, true, true, true, true, true, true, true, false, false] rfl rfl (any_of HT_.out (by kernel_rfl)) (fun _ _ _ h => h) (Or.inr ⟨by rfl, rfl⟩) ?_ ?_
        rotate_left
        · simp only [Act.put, List.setIfInBounds_toArray, List.set_cons_zero, List.set_cons_succ, i64_w, i32_w]
          rfl
        refine pure_ (i := 18) (N := some 68) (v := ?_) (a' := ?_) #[true, true, true, true, true, true, true, true, true, true, true, true, true, true, true, true, true, true, true, false] rfl rfl (any_of HT_.out (by kernel_rfl)) (fun _ _ _ h => h) (Or.inl ⟨by rfl, ?_⟩) ?_ ?_
        rotate_left
        · intro w'
          go_simp
          with_reducible rfl
        rotate_left
        · simp only [Act.put, List.setIfInBounds_toArray, List.set_cons_zero, List.set_cons_succ, i64_w, i32_w]
          rfl
        refine pure_ (i := 19) (N := some 69) (v := ?_) (a' := ?_) #[true, true, true, true, true, true, true, true, true, true, true, true, true, true, true, true, true, true, true, true] rfl rfl (any_of HT_.out (by kernel_rfl)) (fun _ _ _ h => h) (Or.inl ⟨by rfl, ?_⟩) ?_ ?_
        rotate_left
        · intro w'
          go_simp
          with_reducible rfl
        rotate_left
        · simp only [Act.put, List.setIfInBounds_toArray, List.set_cons_zero, List.set_cons_succ, i64_w, i32_w]
          rfl
        refine done_ (done_of HT_.out (by kernel_rfl)) ?_
        obtain ⟨fBKa_0, fBKa_1, fBKa_2⟩ := cells3 BKa.out
        go_wp2_with fail
        refine (ansE a AA cA _ _ rfl hCA.out hcA HRS.out Y ca HY.out.1 HY.out.2).mono ?_
        rintro e w6 ⟨A3, c3, rfl, hc3, hC3, hb⟩
        replace HB := Aside0.mk (below_step HB.out hb)
        replace BKo := Aside0.mk (blk_below BKo.out hb)
        replace BKz := Aside0.mk (blk_below BKz.out hb)
        replace BKa := Aside0.mk (blk_below BKa.out hb)
        replace BKq := Aside0.mk (blk_below BKq.out hb)
        replace hCA := Aside0.mk (Kd.C_below hCA.out hb)
        replace hC1 := Aside0.mk (Kd.C_below hC1.out hb)
        replace hC2 := Aside0.mk (Kd.C_below hC2.out hb)
        clear hb
        replace hC3 := Aside0.mk hC3
        clear fBKa_0 fBKa_1 fBKa_2
        by_cases e3 : ca = 0
        · skip
          subst e3
          go_wp2_with fail
          refine (isAnsE A3 c3 _ Y _ rfl hC3.out hc3 (HY.out.1 ▸ (encA_bytes _).1) (by rw [HY.out.1]; exact Nat.le_trans (encA_bytes _).2 (by omega)) a 0 (by rw [HY.out.1]; exact isAns_enc a HY.out.2.symm HN.out HRS.out)).mono ?_
          rintro e w7 ⟨A4, c4, rfl, hc4, hC4, hb⟩
          replace HB := Aside0.mk (below_step HB.out hb)
          replace BKo := Aside0.mk (blk_below BKo.out hb)
          replace BKz := Aside0.mk (blk_below BKz.out hb)
          replace BKa := Aside0.mk (blk_below BKa.out hb)
          replace BKq := Aside0.mk (blk_below BKq.out hb)
          replace hCA := Aside0.mk (Kd.C_below hCA.out hb)
          replace hC1 := Aside0.mk (Kd.C_below hC1.out hb)
          replace hC2 := Aside0.mk (Kd.C_below hC2.out hb)
          replace hC3 := Aside0.mk (Kd.C_below hC3.out hb)
          clear hb
          replace hC4 := Aside0.mk hC4
          obtain ⟨fBKa_0, fBKa_1, fBKa_2⟩ := cells3 (blk_below BKa.out (below_alloc (Below.refl (World.heap w7).size w7) (.cells #[.int .i64 a.code, .slice A4 a.recs.length c4, .int .i64 a.n] 31 (0, 0))))
          go_wp2_with fail
          clear fBKa_0 fBKa_1 fBKa_2
          have hb := below_alloc (Below.refl (World.heap w7).size w7) (.cells #[.int .i64 a.code, .slice A4 a.recs.length c4, .int .i64 a.n] 31 (0, 0))
          have BKr := Aside0.mk (heap_alloc_new w7 (.cells #[.int .i64 a.code, .slice A4 a.recs.length c4, .int .i64 a.n] 31 (0, 0)))
          have Hn_ : Aside0 ((World.alloc w7 (.cells #[.int .i64 a.code, .slice A4 a.recs.length c4, .int .i64 a.n] 31 (0, 0))).heap.size = (World.heap w7).size + 1) := ⟨by simp⟩
          try clear Hz_
          replace HB := Aside0.mk (below_step HB.out hb)
          replace BKo := Aside0.mk (blk_below BKo.out hb)
          replace BKz := Aside0.mk (blk_below BKz.out hb)
          replace BKa := Aside0.mk (blk_below BKa.out hb)
          replace BKq := Aside0.mk (blk_below BKq.out hb)
          replace hCA := Aside0.mk (Kd.C_below hCA.out hb)
          replace hC1 := Aside0.mk (Kd.C_below hC1.out hb)
          replace hC2 := Aside0.mk (Kd.C_below hC2.out hb)
          replace hC3 := Aside0.mk (Kd.C_below hC3.out hb)
          replace hC4 := Aside0.mk (Kd.C_below hC4.out hb)
          clear hb
          generalize World.alloc w7 (.cells #[.int .i64 a.code, .slice A4 a.recs.length c4, .int .i64 a.n] 31 (0, 0)) = wb5 at HB BKo BKz BKa BKq hCA hC1 hC2 hC3 hC4 BKr Hn_ ⊢
          have Hz_ := Hn_
          clear Hn_
          clear Hz_
          refine (same21E a AA cA _ A4 c4 _ _ rfl rfl hCA.out hcA hC4.out hc4 (by have h1_ := hLs.out.1; omega)).mono ?_
          rintro e w8 ⟨rfl, hb⟩
          replace HB := Aside0.mk (below_step HB.out hb)
          replace BKo := Aside0.mk (blk_below BKo.out hb)
          replace BKz := Aside0.mk (blk_below BKz.out hb)
          replace BKa := Aside0.mk (blk_below BKa.out hb)
          replace BKq := Aside0.mk (blk_below BKq.out hb)
          replace BKr := Aside0.mk (blk_below BKr.out hb)
          replace hCA := Aside0.mk (Kd.C_below hCA.out hb)
          replace hC1 := Aside0.mk (Kd.C_below hC1.out hb)
          replace hC2 := Aside0.mk (Kd.C_below hC2.out hb)
          replace hC3 := Aside0.mk (Kd.C_below hC3.out hb)
          replace hC4 := Aside0.mk (Kd.C_below hC4.out hb)
          clear hb
          go_wp2_with (go_at_call 8; refine (works_c _).mono ?_; rintro e w9 ⟨rfl, hb9⟩)
          go_ret
          exact ⟨rfl, below_step HB.out hb9⟩
        · skip
          have e3b : (ca == 0) = false := by simp [e3]
          replace e3 := eq_false e3
          go_wp2_with (go_at_call 8; refine (works_c _).mono ?_; rintro e w9 ⟨rfl, hb9⟩)
          go_ret
          exact ⟨rfl, below_step HB.out hb9⟩
    · skip
      have e1b : (cd == 0) = false := by simp [e1]
      replace e1 := eq_false e1
      go_wp2_with fail
      refine (ansE a AA cA _ _ rfl hCA.out hcA HRS.out Y ca HY.out.1 HY.out.2).mono ?_
      rintro e w6 ⟨A3, c3, rfl, hc3, hC3, hb⟩
      replace HB := Aside0.mk (below_step HB.out hb)
      replace BKo := Aside0.mk (blk_below BKo.out hb)
      replace BKz := Aside0.mk (blk_below BKz.out hb)
      replace BKa := Aside0.mk (blk_below BKa.out hb)
      replace hCA := Aside0.mk (Kd.C_below hCA.out hb)
      replace hC1 := Aside0.mk (Kd.C_below hC1.out hb)
      replace hC2 := Aside0.mk (Kd.C_below hC2.out hb)
      clear hb
      replace hC3 := Aside0.mk hC3
      clear fBKa_0 fBKa_1 fBKa_2
      by_cases e3 : ca = 0
      · skip
        subst e3
        go_wp2_with fail
        refine (isAnsE A3 c3 _ Y _ rfl hC3.out hc3 (HY.out.1 ▸ (encA_bytes _).1) (by rw [HY.out.1]; exact Nat.le_trans (encA_bytes _).2 (by omega)) a 0 (by rw [HY.out.1]; exact isAns_enc a HY.out.2.symm HN.out HRS.out)).mono ?_
        rintro e w7 ⟨A4, c4, rfl, hc4, hC4, hb⟩
        replace HB := Aside0.mk (below_step HB.out hb)
        replace BKo := Aside0.mk (blk_below BKo.out hb)
        replace BKz := Aside0.mk (blk_below BKz.out hb)
        replace BKa := Aside0.mk (blk_below BKa.out hb)
        replace hCA := Aside0.mk (Kd.C_below hCA.out hb)
        replace hC1 := Aside0.mk (Kd.C_below hC1.out hb)
        replace hC2 := Aside0.mk (Kd.C_below hC2.out hb)
        replace hC3 := Aside0.mk (Kd.C_below hC3.out hb)
        clear hb
        replace hC4 := Aside0.mk hC4
        obtain ⟨fBKa_0, fBKa_1, fBKa_2⟩ := cells3 (blk_below BKa.out (below_alloc (Below.refl (World.heap w7).size w7) (.cells #[.int .i64 a.code, .slice A4 a.recs.length c4, .int .i64 a.n] 31 (0, 0))))
        go_wp2_with fail
        clear fBKa_0 fBKa_1 fBKa_2
        have hb := below_alloc (Below.refl (World.heap w7).size w7) (.cells #[.int .i64 a.code, .slice A4 a.recs.length c4, .int .i64 a.n] 31 (0, 0))
        have BKr := Aside0.mk (heap_alloc_new w7 (.cells #[.int .i64 a.code, .slice A4 a.recs.length c4, .int .i64 a.n] 31 (0, 0)))
        have Hn_ : Aside0 ((World.alloc w7 (.cells #[.int .i64 a.code, .slice A4 a.recs.length c4, .int .i64 a.n] 31 (0, 0))).heap.size = (World.heap w7).size + 1) := ⟨by simp⟩
        try clear Hz_
        replace HB := Aside0.mk (below_step HB.out hb)
        replace BKo := Aside0.mk (blk_below BKo.out hb)
        replace BKz := Aside0.mk (blk_below BKz.out hb)
        replace BKa := Aside0.mk (blk_below BKa.out hb)
        replace hCA := Aside0.mk (Kd.C_below hCA.out hb)
        replace hC1 := Aside0.mk (Kd.C_below hC1.out hb)
        replace hC2 := Aside0.mk (Kd.C_below hC2.out hb)
        replace hC3 := Aside0.mk (Kd.C_below hC3.out hb)
        replace hC4 := Aside0.mk (Kd.C_below hC4.out hb)
        clear hb
        generalize World.alloc w7 (.cells #[.int .i64 a.code, .slice A4 a.recs.length c4, .int .i64 a.n] 31 (0, 0)) = wb4 at HB BKo BKz BKa hCA hC1 hC2 hC3 hC4 BKr Hn_ ⊢
        have Hz_ := Hn_
        clear Hn_
        clear Hz_
        refine (same21E a AA cA _ A4 c4 _ _ rfl rfl hCA.out hcA hC4.out hc4 (by have h1_ := hLs.out.1; omega)).mono ?_
        rintro e w8 ⟨rfl, hb⟩
        replace HB := Aside0.mk (below_step HB.out hb)
        replace BKo := Aside0.mk (blk_below BKo.out hb)
        replace BKz := Aside0.mk (blk_below BKz.out hb)
        replace BKa := Aside0.mk (blk_below BKa.out hb)
        replace BKr := Aside0.mk (blk_below BKr.out hb)
        replace hCA := Aside0.mk (Kd.C_below hCA.out hb)
        replace hC1 := Aside0.mk (Kd.C_below hC1.out hb)
        replace hC2 := Aside0.mk (Kd.C_below hC2.out hb)
        replace hC3 := Aside0.mk (Kd.C_below hC3.out hb)
        replace hC4 := Aside0.mk (Kd.C_below hC4.out hb)
        clear hb
        go_wp2_with (go_at_call 8; refine (works_c _).mono ?_; rintro e w9 ⟨rfl, hb9⟩)
        go_ret
        exact ⟨rfl, below_step HB.out hb9⟩
      · skip
        have e3b : (ca == 0) = false := by simp [e3]
        replace e3 := eq_false e3
        go_wp2_with (go_at_call 8; refine (works_c _).mono ?_; rintro e w9 ⟨rfl, hb9⟩)
        go_ret
        exact ⟨rfl, below_step HB.out hb9⟩
theorem counterpanelaw33_ParcelBack.walk0 (W : World) (cs0 : List Value) (x0 : OpT) (hK0 : kOp.K W x0 cs0) (ok0 : okOp x0) (cs1 : List Value) (x1 : OpT) (hK1 : kOp.K W x1 cs1) (ok1 : okOp x1) (cs2 : List Value) (x2 : AnsP) (hK2 : kAns.K W x2 cs2) (ok2 : okAns x2) :
    Calls Try.prog 4 #[.agg cs0.toArray, .agg cs1.toArray, .agg cs2.toArray] W fun e w' => e = .returned (.bool true) ∧ Below W.heap.size W w' := by
  obtain ⟨A, c, rfl, hc, hC⟩ := kAns_open hK2
  rw [kOp_open hK0, kOp_open hK1]
  exact back_core W x0 x1 ok0 ok1 x2.a A c hc hC ok2.2.2 ok2.2.1 _ _ _ _ _ _ ⟨rfl, rfl⟩ ⟨rfl, rfl⟩ ⟨rfl, rfl⟩
end Go.Proofs.Ytnhkpolfkmpldaa.PAll
