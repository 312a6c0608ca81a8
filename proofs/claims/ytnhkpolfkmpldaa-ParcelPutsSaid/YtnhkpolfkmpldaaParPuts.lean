/- ParcelPuts: its walk. -/
import Derived.Test.YtnhkpolfkmpldaaH3
namespace Go.Proofs.Ytnhkpolfkmpldaa.PAll
open Go.RowKit Go.Proofs.YtnhkpolfkmpldaaW.PrintWords Go.Proofs.YtnhkpolfkmpldaaW.PrintLast Go.Proofs.YtnhkpolfkmpldaaW.PrintMore
set_option linter.unusedVariables false
set_option linter.unusedSimpArgs false

set_option maxHeartbeats 8000000 in
set_option maxRecDepth 100000 in
theorem puts_core (W : World) (o : OpT) (ho : okOp o) (a : AnsT) (AA : Option Addr) (cA : Nat) (hcA : a.recs.length ≤ cA) (hC : Kd.C k54 W AA a.recs.length a.recs) (hr : ∀ r ∈ a.recs, okRec r) (X Y : List Int) (cd ca : Int) (hX : X = encT o ∧ cd = textC (valT o) 16) (hY : Y = encA a ∧ ca = ansCode a) :
    Calls Try.prog 3 #[.agg (opT o), .agg #[.int .i64 a.code, .slice AA a.recs.length cA, .int .i64 a.n]] W fun e w' => e = .returned (.bool true) ∧ Below W.heap.size W w' := by
  obtain ⟨ok, okey, ox, oy, ov, op0, op1, op2, op3, on⟩ := o
  unfold opT opC
  have HB := Aside0.mk (Below.refl W.heap.size W)
  have HX := Aside0.mk hX
  have HY := Aside0.mk hY
  have HOK := Aside0.mk ho
  have HRS := Aside0.mk hr
  have hCA := Aside0.mk hC
  clear hX hY ho hr hC
  go_enter Try.func3, Try.ntmps3
  by_cases q1 : (100 : Int) < (ov.size : Int)
  · skip
    have q1' := eq_true (show 100 < ov.size by omega)
    replace q1 := eq_true q1
    go_wp2_with (go_at_call 8; refine (works_c _).mono ?_; rintro e w9 ⟨rfl, hb9⟩)
    go_ret
    exact ⟨rfl, below_step (below_alloc (below_alloc HB.out _) _) hb9⟩
  have hs : Aside0 (ov.size ≤ 100) := ⟨by omega⟩
  have q1' := eq_false (show ¬ 100 < ov.size by omega)
  replace q1 := eq_false q1
  go_wp2_with fail
  have hb := below_alloc (Below.refl (World.heap W).size W) (.cells #[.int .i64 ok, .int .u64 okey, .int .u32 ox, .int .u32 oy, .string ov, .int .u32 op0, .int .u32 op1, .int .u32 op2, .int .u32 op3, .int .i64 on] 27 (0, 0))
  have BKo := Aside0.mk (heap_alloc_new W (.cells #[.int .i64 ok, .int .u64 okey, .int .u32 ox, .int .u32 oy, .string ov, .int .u32 op0, .int .u32 op1, .int .u32 op2, .int .u32 op3, .int .i64 on] 27 (0, 0)))
  have Hn_ : Aside0 ((World.alloc W (.cells #[.int .i64 ok, .int .u64 okey, .int .u32 ox, .int .u32 oy, .string ov, .int .u32 op0, .int .u32 op1, .int .u32 op2, .int .u32 op3, .int .i64 on] 27 (0, 0))).heap.size = (World.heap W).size + 1) := ⟨by simp⟩
  replace HB := Aside0.mk (below_step HB.out hb)
  replace hCA := Aside0.mk (Kd.C_below hCA.out hb)
  clear hb
  generalize World.alloc W (.cells #[.int .i64 ok, .int .u64 okey, .int .u32 ox, .int .u32 oy, .string ov, .int .u32 op0, .int .u32 op1, .int .u32 op2, .int .u32 op3, .int .i64 on] 27 (0, 0)) = wb0 at HB hCA BKo Hn_ ⊢
  have Hz_ := Hn_
  clear Hn_
  have hb := below_alloc (Below.refl (World.heap wb0).size wb0) (.cells #[.int .i64 a.code, .slice AA a.recs.length cA, .int .i64 a.n] 31 (0, 0))
  have BKa := Aside0.mk (heap_alloc_new wb0 (.cells #[.int .i64 a.code, .slice AA a.recs.length cA, .int .i64 a.n] 31 (0, 0)))
  have Hn_ : Aside0 ((World.alloc wb0 (.cells #[.int .i64 a.code, .slice AA a.recs.length cA, .int .i64 a.n] 31 (0, 0))).heap.size = (World.heap W).size + 1 + 1) := ⟨by simp [Hz_.out]⟩
  rw [Hz_.out] at BKa
  clear Hz_
  replace HB := Aside0.mk (below_step HB.out hb)
  replace BKo := Aside0.mk (blk_below BKo.out hb)
  replace hCA := Aside0.mk (Kd.C_below hCA.out hb)
  clear hb
  generalize World.alloc wb0 (.cells #[.int .i64 a.code, .slice AA a.recs.length cA, .int .i64 a.n] 31 (0, 0)) = wb1 at HB BKo hCA BKa Hn_ ⊢
  have Hz_ := Hn_
  clear Hn_
  clear Hz_
  obtain ⟨lt, hlt⟩ : ∃ q, lightB a = q := ⟨_, rfl⟩
  refine (lightE a AA cA _ _ rfl hCA.out hcA lt hlt).mono ?_
  rintro e w1 ⟨rfl, hb⟩
  replace HB := Aside0.mk (below_step HB.out hb)
  replace BKo := Aside0.mk (blk_below BKo.out hb)
  replace BKa := Aside0.mk (blk_below BKa.out hb)
  replace hCA := Aside0.mk (Kd.C_below hCA.out hb)
  clear hb
  have fBKo_0 : World.cell? _ ⟨(World.heap W).size, 0, none⟩ = some (.int .i64 ok) := (blk_cell BKo.out 0).trans rfl
  have fBKo_1 : World.cell? _ ⟨(World.heap W).size, 1, none⟩ = some (.int .u64 okey) := (blk_cell BKo.out 1).trans rfl
  have fBKo_2 : World.cell? _ ⟨(World.heap W).size, 2, none⟩ = some (.int .u32 ox) := (blk_cell BKo.out 2).trans rfl
  have fBKo_3 : World.cell? _ ⟨(World.heap W).size, 3, none⟩ = some (.int .u32 oy) := (blk_cell BKo.out 3).trans rfl
  have fBKo_4 : World.cell? _ ⟨(World.heap W).size, 4, none⟩ = some (.string ov) := (blk_cell BKo.out 4).trans rfl
  have fBKo_5 : World.cell? _ ⟨(World.heap W).size, 5, none⟩ = some (.int .u32 op0) := (blk_cell BKo.out 5).trans rfl
  have fBKo_6 : World.cell? _ ⟨(World.heap W).size, 6, none⟩ = some (.int .u32 op1) := (blk_cell BKo.out 6).trans rfl
  have fBKo_7 : World.cell? _ ⟨(World.heap W).size, 7, none⟩ = some (.int .u32 op2) := (blk_cell BKo.out 7).trans rfl
  have fBKo_8 : World.cell? _ ⟨(World.heap W).size, 8, none⟩ = some (.int .u32 op3) := (blk_cell BKo.out 8).trans rfl
  have fBKo_9 : World.cell? _ ⟨(World.heap W).size, 9, none⟩ = some (.int .i64 on) := (blk_cell BKo.out 9).trans rfl
  have fBKa_0 : World.cell? _ ⟨(World.heap W).size + 1, 0, none⟩ = some (.int .i64 a.code) := (blk_cell BKa.out 0).trans rfl
  have fBKa_1 : World.cell? _ ⟨(World.heap W).size + 1, 1, none⟩ = some (.slice AA a.recs.length cA) := (blk_cell BKa.out 1).trans rfl
  have fBKa_2 : World.cell? _ ⟨(World.heap W).size + 1, 2, none⟩ = some (.int .i64 a.n) := (blk_cell BKa.out 2).trans rfl
  replace hlt := Aside0.mk hlt
  cases lt with
  | false =>
    go_wp2_with (go_at_call 8; refine (works_c _).mono ?_; rintro e w9 ⟨rfl, hb9⟩)
    go_ret
    exact ⟨rfl, below_step HB.out hb9⟩
  | true =>
    have hLs := Aside0.mk (lightB_le hlt.out)
    go_wp2_with fail
    refine (opE (ok, okey, ox, oy, ov, op0, op1, op2, op3, on) HOK.out _ X cd HX.out.1 HX.out.2).mono ?_
    rintro e w2 ⟨A1, c1, rfl, hc1, hC1, hb⟩
    replace HB := Aside0.mk (below_step HB.out hb)
    replace BKo := Aside0.mk (blk_below BKo.out hb)
    replace BKa := Aside0.mk (blk_below BKa.out hb)
    replace hCA := Aside0.mk (Kd.C_below hCA.out hb)
    clear hb
    replace hC1 := Aside0.mk hC1
    clear fBKo_0 fBKo_1 fBKo_2 fBKo_3 fBKo_4 fBKo_5 fBKo_6 fBKo_7 fBKo_8 fBKo_9 fBKa_0 fBKa_1 fBKa_2
    have fBKo_0 : World.cell? _ ⟨(World.heap W).size, 0, none⟩ = some (.int .i64 ok) := (blk_cell BKo.out 0).trans rfl
    have fBKo_1 : World.cell? _ ⟨(World.heap W).size, 1, none⟩ = some (.int .u64 okey) := (blk_cell BKo.out 1).trans rfl
    have fBKo_2 : World.cell? _ ⟨(World.heap W).size, 2, none⟩ = some (.int .u32 ox) := (blk_cell BKo.out 2).trans rfl
    have fBKo_3 : World.cell? _ ⟨(World.heap W).size, 3, none⟩ = some (.int .u32 oy) := (blk_cell BKo.out 3).trans rfl
    have fBKo_4 : World.cell? _ ⟨(World.heap W).size, 4, none⟩ = some (.string ov) := (blk_cell BKo.out 4).trans rfl
    have fBKo_5 : World.cell? _ ⟨(World.heap W).size, 5, none⟩ = some (.int .u32 op0) := (blk_cell BKo.out 5).trans rfl
    have fBKo_6 : World.cell? _ ⟨(World.heap W).size, 6, none⟩ = some (.int .u32 op1) := (blk_cell BKo.out 6).trans rfl
    have fBKo_7 : World.cell? _ ⟨(World.heap W).size, 7, none⟩ = some (.int .u32 op2) := (blk_cell BKo.out 7).trans rfl
    have fBKo_8 : World.cell? _ ⟨(World.heap W).size, 8, none⟩ = some (.int .u32 op3) := (blk_cell BKo.out 8).trans rfl
    have fBKo_9 : World.cell? _ ⟨(World.heap W).size, 9, none⟩ = some (.int .i64 on) := (blk_cell BKo.out 9).trans rfl
    have fBKa_0 : World.cell? _ ⟨(World.heap W).size + 1, 0, none⟩ = some (.int .i64 a.code) := (blk_cell BKa.out 0).trans rfl
    have fBKa_1 : World.cell? _ ⟨(World.heap W).size + 1, 1, none⟩ = some (.slice AA a.recs.length cA) := (blk_cell BKa.out 1).trans rfl
    have fBKa_2 : World.cell? _ ⟨(World.heap W).size + 1, 2, none⟩ = some (.int .i64 a.n) := (blk_cell BKa.out 2).trans rfl
    go_wp2_with fail
    refine (ropE (ok, okey, ox, oy, ov, op0, op1, op2, op3, on) HOK.out hs.out _ X cd HX.out.1 HX.out.2).mono ?_
    rintro e w3 ⟨A2, c2, rfl, hc2, hC2, hb⟩
    replace HB := Aside0.mk (below_step HB.out hb)
    replace BKo := Aside0.mk (blk_below BKo.out hb)
    replace BKa := Aside0.mk (blk_below BKa.out hb)
    replace hCA := Aside0.mk (Kd.C_below hCA.out hb)
    replace hC1 := Aside0.mk (Kd.C_below hC1.out hb)
    clear hb
    replace hC2 := Aside0.mk hC2
    clear fBKo_0 fBKo_1 fBKo_2 fBKo_3 fBKo_4 fBKo_5 fBKo_6 fBKo_7 fBKo_8 fBKo_9 fBKa_0 fBKa_1 fBKa_2
    have fBKo_0 : World.cell? _ ⟨(World.heap W).size, 0, none⟩ = some (.int .i64 ok) := (blk_cell BKo.out 0).trans rfl
    have fBKo_1 : World.cell? _ ⟨(World.heap W).size, 1, none⟩ = some (.int .u64 okey) := (blk_cell BKo.out 1).trans rfl
    have fBKo_2 : World.cell? _ ⟨(World.heap W).size, 2, none⟩ = some (.int .u32 ox) := (blk_cell BKo.out 2).trans rfl
    have fBKo_3 : World.cell? _ ⟨(World.heap W).size, 3, none⟩ = some (.int .u32 oy) := (blk_cell BKo.out 3).trans rfl
    have fBKo_4 : World.cell? _ ⟨(World.heap W).size, 4, none⟩ = some (.string ov) := (blk_cell BKo.out 4).trans rfl
    have fBKo_5 : World.cell? _ ⟨(World.heap W).size, 5, none⟩ = some (.int .u32 op0) := (blk_cell BKo.out 5).trans rfl
    have fBKo_6 : World.cell? _ ⟨(World.heap W).size, 6, none⟩ = some (.int .u32 op1) := (blk_cell BKo.out 6).trans rfl
    have fBKo_7 : World.cell? _ ⟨(World.heap W).size, 7, none⟩ = some (.int .u32 op2) := (blk_cell BKo.out 7).trans rfl
    have fBKo_8 : World.cell? _ ⟨(World.heap W).size, 8, none⟩ = some (.int .u32 op3) := (blk_cell BKo.out 8).trans rfl
    have fBKo_9 : World.cell? _ ⟨(World.heap W).size, 9, none⟩ = some (.int .i64 on) := (blk_cell BKo.out 9).trans rfl
    have fBKa_0 : World.cell? _ ⟨(World.heap W).size + 1, 0, none⟩ = some (.int .i64 a.code) := (blk_cell BKa.out 0).trans rfl
    have fBKa_1 : World.cell? _ ⟨(World.heap W).size + 1, 1, none⟩ = some (.slice AA a.recs.length cA) := (blk_cell BKa.out 1).trans rfl
    have fBKa_2 : World.cell? _ ⟨(World.heap W).size + 1, 2, none⟩ = some (.int .i64 a.n) := (blk_cell BKa.out 2).trans rfl
    go_wp2_with fail
    refine (ansE a AA cA _ _ rfl hCA.out hcA HRS.out Y ca HY.out.1 HY.out.2).mono ?_
    rintro e w4 ⟨A3, c3, rfl, hc3, hC3, hb⟩
    replace HB := Aside0.mk (below_step HB.out hb)
    replace BKo := Aside0.mk (blk_below BKo.out hb)
    replace BKa := Aside0.mk (blk_below BKa.out hb)
    replace hCA := Aside0.mk (Kd.C_below hCA.out hb)
    replace hC1 := Aside0.mk (Kd.C_below hC1.out hb)
    replace hC2 := Aside0.mk (Kd.C_below hC2.out hb)
    clear hb
    replace hC3 := Aside0.mk hC3
    clear fBKo_0 fBKo_1 fBKo_2 fBKo_3 fBKo_4 fBKo_5 fBKo_6 fBKo_7 fBKo_8 fBKo_9 fBKa_0 fBKa_1 fBKa_2
    have fBKo_0 : World.cell? _ ⟨(World.heap W).size, 0, none⟩ = some (.int .i64 ok) := (blk_cell BKo.out 0).trans rfl
    have fBKo_1 : World.cell? _ ⟨(World.heap W).size, 1, none⟩ = some (.int .u64 okey) := (blk_cell BKo.out 1).trans rfl
    have fBKo_2 : World.cell? _ ⟨(World.heap W).size, 2, none⟩ = some (.int .u32 ox) := (blk_cell BKo.out 2).trans rfl
    have fBKo_3 : World.cell? _ ⟨(World.heap W).size, 3, none⟩ = some (.int .u32 oy) := (blk_cell BKo.out 3).trans rfl
    have fBKo_4 : World.cell? _ ⟨(World.heap W).size, 4, none⟩ = some (.string ov) := (blk_cell BKo.out 4).trans rfl
    have fBKo_5 : World.cell? _ ⟨(World.heap W).size, 5, none⟩ = some (.int .u32 op0) := (blk_cell BKo.out 5).trans rfl
    have fBKo_6 : World.cell? _ ⟨(World.heap W).size, 6, none⟩ = some (.int .u32 op1) := (blk_cell BKo.out 6).trans rfl
    have fBKo_7 : World.cell? _ ⟨(World.heap W).size, 7, none⟩ = some (.int .u32 op2) := (blk_cell BKo.out 7).trans rfl
    have fBKo_8 : World.cell? _ ⟨(World.heap W).size, 8, none⟩ = some (.int .u32 op3) := (blk_cell BKo.out 8).trans rfl
    have fBKo_9 : World.cell? _ ⟨(World.heap W).size, 9, none⟩ = some (.int .i64 on) := (blk_cell BKo.out 9).trans rfl
    have fBKa_0 : World.cell? _ ⟨(World.heap W).size + 1, 0, none⟩ = some (.int .i64 a.code) := (blk_cell BKa.out 0).trans rfl
    have fBKa_1 : World.cell? _ ⟨(World.heap W).size + 1, 1, none⟩ = some (.slice AA a.recs.length cA) := (blk_cell BKa.out 1).trans rfl
    have fBKa_2 : World.cell? _ ⟨(World.heap W).size + 1, 2, none⟩ = some (.int .i64 a.n) := (blk_cell BKa.out 2).trans rfl
    go_wp2_with fail
    refine (ransE a AA cA _ _ rfl hCA.out hcA HRS.out hLs.out.2 Y ca HY.out.1 HY.out.2).mono ?_
    rintro e w5 ⟨A4, c4, rfl, hc4, hC4, hb⟩
    replace HB := Aside0.mk (below_step HB.out hb)
    replace BKo := Aside0.mk (blk_below BKo.out hb)
    replace BKa := Aside0.mk (blk_below BKa.out hb)
    replace hCA := Aside0.mk (Kd.C_below hCA.out hb)
    replace hC1 := Aside0.mk (Kd.C_below hC1.out hb)
    replace hC2 := Aside0.mk (Kd.C_below hC2.out hb)
    replace hC3 := Aside0.mk (Kd.C_below hC3.out hb)
    clear hb
    replace hC4 := Aside0.mk hC4
    clear fBKo_0 fBKo_1 fBKo_2 fBKo_3 fBKo_4 fBKo_5 fBKo_6 fBKo_7 fBKo_8 fBKo_9 fBKa_0 fBKa_1 fBKa_2
    have fBKo_0 : World.cell? _ ⟨(World.heap W).size, 0, none⟩ = some (.int .i64 ok) := (blk_cell BKo.out 0).trans rfl
    have fBKo_1 : World.cell? _ ⟨(World.heap W).size, 1, none⟩ = some (.int .u64 okey) := (blk_cell BKo.out 1).trans rfl
    have fBKo_2 : World.cell? _ ⟨(World.heap W).size, 2, none⟩ = some (.int .u32 ox) := (blk_cell BKo.out 2).trans rfl
    have fBKo_3 : World.cell? _ ⟨(World.heap W).size, 3, none⟩ = some (.int .u32 oy) := (blk_cell BKo.out 3).trans rfl
    have fBKo_4 : World.cell? _ ⟨(World.heap W).size, 4, none⟩ = some (.string ov) := (blk_cell BKo.out 4).trans rfl
    have fBKo_5 : World.cell? _ ⟨(World.heap W).size, 5, none⟩ = some (.int .u32 op0) := (blk_cell BKo.out 5).trans rfl
    have fBKo_6 : World.cell? _ ⟨(World.heap W).size, 6, none⟩ = some (.int .u32 op1) := (blk_cell BKo.out 6).trans rfl
    have fBKo_7 : World.cell? _ ⟨(World.heap W).size, 7, none⟩ = some (.int .u32 op2) := (blk_cell BKo.out 7).trans rfl
    have fBKo_8 : World.cell? _ ⟨(World.heap W).size, 8, none⟩ = some (.int .u32 op3) := (blk_cell BKo.out 8).trans rfl
    have fBKo_9 : World.cell? _ ⟨(World.heap W).size, 9, none⟩ = some (.int .i64 on) := (blk_cell BKo.out 9).trans rfl
    have fBKa_0 : World.cell? _ ⟨(World.heap W).size + 1, 0, none⟩ = some (.int .i64 a.code) := (blk_cell BKa.out 0).trans rfl
    have fBKa_1 : World.cell? _ ⟨(World.heap W).size + 1, 1, none⟩ = some (.slice AA a.recs.length cA) := (blk_cell BKa.out 1).trans rfl
    have fBKa_2 : World.cell? _ ⟨(World.heap W).size + 1, 2, none⟩ = some (.int .i64 a.n) := (blk_cell BKa.out 2).trans rfl
    go_wp2_with fail
    refine (sameE A1 c1 _ X A2 c2 _ X _ rfl rfl hC1.out hc1 hC2.out hc2 (HX.out.1 ▸ (encT_bytes _).1) (HX.out.1 ▸ (encT_bytes _).1) true (by simp)).mono ?_
    rintro e w6 ⟨rfl, hb⟩
    replace HB := Aside0.mk (below_step HB.out hb)
    replace BKo := Aside0.mk (blk_below BKo.out hb)
    replace BKa := Aside0.mk (blk_below BKa.out hb)
    replace hCA := Aside0.mk (Kd.C_below hCA.out hb)
    replace hC1 := Aside0.mk (Kd.C_below hC1.out hb)
    replace hC2 := Aside0.mk (Kd.C_below hC2.out hb)
    replace hC3 := Aside0.mk (Kd.C_below hC3.out hb)
    replace hC4 := Aside0.mk (Kd.C_below hC4.out hb)
    clear hb
    clear fBKo_0 fBKo_1 fBKo_2 fBKo_3 fBKo_4 fBKo_5 fBKo_6 fBKo_7 fBKo_8 fBKo_9 fBKa_0 fBKa_1 fBKa_2
    have fBKo_0 : World.cell? _ ⟨(World.heap W).size, 0, none⟩ = some (.int .i64 ok) := (blk_cell BKo.out 0).trans rfl
    have fBKo_1 : World.cell? _ ⟨(World.heap W).size, 1, none⟩ = some (.int .u64 okey) := (blk_cell BKo.out 1).trans rfl
    have fBKo_2 : World.cell? _ ⟨(World.heap W).size, 2, none⟩ = some (.int .u32 ox) := (blk_cell BKo.out 2).trans rfl
    have fBKo_3 : World.cell? _ ⟨(World.heap W).size, 3, none⟩ = some (.int .u32 oy) := (blk_cell BKo.out 3).trans rfl
    have fBKo_4 : World.cell? _ ⟨(World.heap W).size, 4, none⟩ = some (.string ov) := (blk_cell BKo.out 4).trans rfl
    have fBKo_5 : World.cell? _ ⟨(World.heap W).size, 5, none⟩ = some (.int .u32 op0) := (blk_cell BKo.out 5).trans rfl
    have fBKo_6 : World.cell? _ ⟨(World.heap W).size, 6, none⟩ = some (.int .u32 op1) := (blk_cell BKo.out 6).trans rfl
    have fBKo_7 : World.cell? _ ⟨(World.heap W).size, 7, none⟩ = some (.int .u32 op2) := (blk_cell BKo.out 7).trans rfl
    have fBKo_8 : World.cell? _ ⟨(World.heap W).size, 8, none⟩ = some (.int .u32 op3) := (blk_cell BKo.out 8).trans rfl
    have fBKo_9 : World.cell? _ ⟨(World.heap W).size, 9, none⟩ = some (.int .i64 on) := (blk_cell BKo.out 9).trans rfl
    have fBKa_0 : World.cell? _ ⟨(World.heap W).size + 1, 0, none⟩ = some (.int .i64 a.code) := (blk_cell BKa.out 0).trans rfl
    have fBKa_1 : World.cell? _ ⟨(World.heap W).size + 1, 1, none⟩ = some (.slice AA a.recs.length cA) := (blk_cell BKa.out 1).trans rfl
    have fBKa_2 : World.cell? _ ⟨(World.heap W).size + 1, 2, none⟩ = some (.int .i64 a.n) := (blk_cell BKa.out 2).trans rfl
    go_wp2_with fail
    refine (sameE A3 c3 _ Y A4 c4 _ Y _ rfl rfl hC3.out hc3 hC4.out hc4 (HY.out.1 ▸ (encA_bytes _).1) (HY.out.1 ▸ (encA_bytes _).1) true (by simp)).mono ?_
    rintro e w7 ⟨rfl, hb⟩
    replace HB := Aside0.mk (below_step HB.out hb)
    replace BKo := Aside0.mk (blk_below BKo.out hb)
    replace BKa := Aside0.mk (blk_below BKa.out hb)
    replace hCA := Aside0.mk (Kd.C_below hCA.out hb)
    replace hC1 := Aside0.mk (Kd.C_below hC1.out hb)
    replace hC2 := Aside0.mk (Kd.C_below hC2.out hb)
    replace hC3 := Aside0.mk (Kd.C_below hC3.out hb)
    replace hC4 := Aside0.mk (Kd.C_below hC4.out hb)
    clear hb
    clear fBKo_0 fBKo_1 fBKo_2 fBKo_3 fBKo_4 fBKo_5 fBKo_6 fBKo_7 fBKo_8 fBKo_9 fBKa_0 fBKa_1 fBKa_2
    have fBKo_0 : World.cell? _ ⟨(World.heap W).size, 0, none⟩ = some (.int .i64 ok) := (blk_cell BKo.out 0).trans rfl
    have fBKo_1 : World.cell? _ ⟨(World.heap W).size, 1, none⟩ = some (.int .u64 okey) := (blk_cell BKo.out 1).trans rfl
    have fBKo_2 : World.cell? _ ⟨(World.heap W).size, 2, none⟩ = some (.int .u32 ox) := (blk_cell BKo.out 2).trans rfl
    have fBKo_3 : World.cell? _ ⟨(World.heap W).size, 3, none⟩ = some (.int .u32 oy) := (blk_cell BKo.out 3).trans rfl
    have fBKo_4 : World.cell? _ ⟨(World.heap W).size, 4, none⟩ = some (.string ov) := (blk_cell BKo.out 4).trans rfl
    have fBKo_5 : World.cell? _ ⟨(World.heap W).size, 5, none⟩ = some (.int .u32 op0) := (blk_cell BKo.out 5).trans rfl
    have fBKo_6 : World.cell? _ ⟨(World.heap W).size, 6, none⟩ = some (.int .u32 op1) := (blk_cell BKo.out 6).trans rfl
    have fBKo_7 : World.cell? _ ⟨(World.heap W).size, 7, none⟩ = some (.int .u32 op2) := (blk_cell BKo.out 7).trans rfl
    have fBKo_8 : World.cell? _ ⟨(World.heap W).size, 8, none⟩ = some (.int .u32 op3) := (blk_cell BKo.out 8).trans rfl
    have fBKo_9 : World.cell? _ ⟨(World.heap W).size, 9, none⟩ = some (.int .i64 on) := (blk_cell BKo.out 9).trans rfl
    have fBKa_0 : World.cell? _ ⟨(World.heap W).size + 1, 0, none⟩ = some (.int .i64 a.code) := (blk_cell BKa.out 0).trans rfl
    have fBKa_1 : World.cell? _ ⟨(World.heap W).size + 1, 1, none⟩ = some (.slice AA a.recs.length cA) := (blk_cell BKa.out 1).trans rfl
    have fBKa_2 : World.cell? _ ⟨(World.heap W).size + 1, 2, none⟩ = some (.int .i64 a.n) := (blk_cell BKa.out 2).trans rfl
    go_wp2_with (go_at_call 8; refine (works_c _).mono ?_; rintro e w9 ⟨rfl, hb9⟩)
    go_ret
    exact ⟨rfl, below_step HB.out hb9⟩
theorem counterpanelaw33_ParcelPuts.walk0 (W : World) (cs0 : List Value) (x0 : OpT) (hK0 : kOp.K W x0 cs0) (ok0 : okOp x0) (cs1 : List Value) (x1 : AnsP) (hK1 : kAns.K W x1 cs1) (ok1 : okAns x1) :
    Calls Try.prog 3 #[.agg cs0.toArray, .agg cs1.toArray] W fun e w' => e = .returned (.bool true) ∧ Below W.heap.size W w' := by
  obtain ⟨A, c, rfl, hc, hC⟩ := kAns_open hK1
  rw [kOp_open hK0]
  exact puts_core W x0 ok0 x1.a A c hc hC ok1.2.2 _ _ _ _ ⟨rfl, rfl⟩ ⟨rfl, rfl⟩
end Go.Proofs.Ytnhkpolfkmpldaa.PAll
