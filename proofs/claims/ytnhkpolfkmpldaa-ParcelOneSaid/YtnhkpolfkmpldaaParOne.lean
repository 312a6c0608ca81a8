/- ParcelOne: its walk. -/
import Derived.Test.YtnhkpolfkmpldaaH3
namespace Go.Proofs.Ytnhkpolfkmpldaa.PAll
open Go.RowKit Go.Proofs.YtnhkpolfkmpldaaW.PrintWords Go.Proofs.YtnhkpolfkmpldaaW.PrintLast Go.Proofs.YtnhkpolfkmpldaaW.PrintMore
set_option linter.unusedVariables false
set_option linter.unusedSimpArgs false
attribute [local go_sem high] eqA27
theorem cells10 {w : World} {b : Nat} {T : TypeId} {v0 v1 v2 v3 v4 v5 v6 v7 v8 v9 : Value} (h : w.heap[b]? = some (.cells #[v0, v1, v2, v3, v4, v5, v6, v7, v8, v9] T (0, 0))) : w.cell? ⟨b, 0, none⟩ = some v0 ∧ w.cell? ⟨b, 1, none⟩ = some v1 ∧ w.cell? ⟨b, 2, none⟩ = some v2 ∧ w.cell? ⟨b, 3, none⟩ = some v3 ∧ w.cell? ⟨b, 4, none⟩ = some v4 ∧ w.cell? ⟨b, 5, none⟩ = some v5 ∧ w.cell? ⟨b, 6, none⟩ = some v6 ∧ w.cell? ⟨b, 7, none⟩ = some v7 ∧ w.cell? ⟨b, 8, none⟩ = some v8 ∧ w.cell? ⟨b, 9, none⟩ = some v9 :=
  ⟨(blk_cell h 0).trans rfl, (blk_cell h 1).trans rfl, (blk_cell h 2).trans rfl, (blk_cell h 3).trans rfl, (blk_cell h 4).trans rfl, (blk_cell h 5).trans rfl, (blk_cell h 6).trans rfl, (blk_cell h 7).trans rfl, (blk_cell h 8).trans rfl, (blk_cell h 9).trans rfl⟩
theorem cells3 {w : World} {b : Nat} {T : TypeId} {v0 v1 v2 : Value} (h : w.heap[b]? = some (.cells #[v0, v1, v2] T (0, 0))) : w.cell? ⟨b, 0, none⟩ = some v0 ∧ w.cell? ⟨b, 1, none⟩ = some v1 ∧ w.cell? ⟨b, 2, none⟩ = some v2 :=
  ⟨(blk_cell h 0).trans rfl, (blk_cell h 1).trans rfl, (blk_cell h 2).trans rfl⟩
theorem C_nil54 (w : World) : Kd.C k54 w none 0 [] := by
  refine ⟨rfl, ?_⟩ <;> simp
set_option maxHeartbeats 8000000 in
set_option maxRecDepth 100000 in
theorem one_core (W : World) (A0 : Option Addr) (c0 : Nat) (l0 : List Int) (hC : Kd.C (Kd.int .u8) W A0 l0.length l0) (hc : l0.length ≤ c0) (hby : Bytes l0) :
    Calls Try.prog 5 #[.slice A0 l0.length c0] W fun e w' => e = .returned (.bool true) ∧ Below W.heap.size W w' := by
  have HB := Aside0.mk (Below.refl W.heap.size W)
  have hC0 := Aside0.mk hC
  have HBY := Aside0.mk hby
  clear hC hby
  go_enter Try.func5, Try.ntmps5
  by_cases q1 : (9000 : Int) < (l0.length : Int)
  · skip
    have q1' := eq_true (show 9000 < l0.length by omega)
    replace q1 := eq_true q1
    go_wp2_with (go_at_call 8; refine (works_c _).mono ?_; rintro e w9 ⟨rfl, hb9⟩)
    go_ret
    exact ⟨rfl, below_step HB.out hb9⟩
  have q0 : Aside0 (l0.length ≤ 9000) := ⟨by omega⟩
  have q1' := eq_false (show ¬ 9000 < l0.length by omega)
  replace q1 := eq_false q1
  obtain ⟨p, cd, hp⟩ : ∃ p cd, isOpF l0 = (p, cd) := ⟨_, _, rfl⟩
  obtain ⟨q, ca, hq⟩ : ∃ q ca, isAnsF l0 = (q, ca) := ⟨_, _, rfl⟩
  have hpB := isOp_back l0 HBY.out (by have := q0.out; omega) p cd hp
  have hqB := Aside0.mk (isAns_back l0 HBY.out (by have := q0.out; omega) q ca hq)
  replace hp := Aside0.mk hp
  replace hq := Aside0.mk hq
  go_wp2_with fail
  refine (isOpE A0 c0 _ l0 _ rfl hC0.out hc HBY.out (by have := q0.out; omega) p cd hp.out).mono ?_
  rintro e w1 ⟨rfl, hb⟩
  replace HB := Aside0.mk (below_step HB.out hb)
  replace hC0 := Aside0.mk (Kd.C_below hC0.out hb)
  clear hb
  rcases hpB with ⟨rfl, k1, k2, k3⟩ | ⟨rfl, rfl | rfl⟩
  · skip
    obtain ⟨pk, pkey, px, py, pv, pp0, pp1, pp2, pp3, pn⟩ := p
    have hk1 := Aside0.mk k1
    have hk2 := Aside0.mk k2
    have hk3 := Aside0.mk k3
    clear k1 k2 k3
    unfold opT opC
    go_wp2_with fail
    have hb := below_alloc (Below.refl (World.heap w1).size w1) (.cells #[.int .i64 pk, .int .u64 pkey, .int .u32 px, .int .u32 py, .string pv, .int .u32 pp0, .int .u32 pp1, .int .u32 pp2, .int .u32 pp3, .int .i64 pn] 27 (0, 0))
    have BKp := Aside0.mk (heap_alloc_new w1 (.cells #[.int .i64 pk, .int .u64 pkey, .int .u32 px, .int .u32 py, .string pv, .int .u32 pp0, .int .u32 pp1, .int .u32 pp2, .int .u32 pp3, .int .i64 pn] 27 (0, 0)))
    have Hn_ : Aside0 ((World.alloc w1 (.cells #[.int .i64 pk, .int .u64 pkey, .int .u32 px, .int .u32 py, .string pv, .int .u32 pp0, .int .u32 pp1, .int .u32 pp2, .int .u32 pp3, .int .i64 pn] 27 (0, 0))).heap.size = (World.heap w1).size + 1) := ⟨by simp⟩
    try clear Hz_
    replace HB := Aside0.mk (below_step HB.out hb)
    replace hC0 := Aside0.mk (Kd.C_below hC0.out hb)
    clear hb
    generalize World.alloc w1 (.cells #[.int .i64 pk, .int .u64 pkey, .int .u32 px, .int .u32 py, .string pv, .int .u32 pp0, .int .u32 pp1, .int .u32 pp2, .int .u32 pp3, .int .i64 pn] 27 (0, 0)) = wb1 at HB hC0 BKp Hn_ ⊢
    have Hz_ := Hn_
    clear Hn_
    clear Hz_
    refine (isAnsE A0 c0 _ l0 _ rfl hC0.out hc HBY.out (by have := q0.out; omega) q ca hq.out).mono ?_
    rintro e w2 ⟨A2, c2, rfl, hc2, hC2, hb⟩
    replace HB := Aside0.mk (below_step HB.out hb)
    replace BKp := Aside0.mk (blk_below BKp.out hb)
    replace hC0 := Aside0.mk (Kd.C_below hC0.out hb)
    clear hb
    replace hC2 := Aside0.mk hC2
    obtain ⟨fBKp_0, fBKp_1, fBKp_2, fBKp_3, fBKp_4, fBKp_5, fBKp_6, fBKp_7, fBKp_8, fBKp_9⟩ := cells10 (blk_below BKp.out (below_alloc (Below.refl (World.heap w2).size w2) (.cells #[.int .i64 q.code, .slice A2 q.recs.length c2, .int .i64 q.n] 31 (0, 0))))
    go_wp2_with fail
    clear fBKp_0 fBKp_1 fBKp_2 fBKp_3 fBKp_4 fBKp_5 fBKp_6 fBKp_7 fBKp_8 fBKp_9
    have hb := below_alloc (Below.refl (World.heap w2).size w2) (.cells #[.int .i64 q.code, .slice A2 q.recs.length c2, .int .i64 q.n] 31 (0, 0))
    have BKq := Aside0.mk (heap_alloc_new w2 (.cells #[.int .i64 q.code, .slice A2 q.recs.length c2, .int .i64 q.n] 31 (0, 0)))
    have Hn_ : Aside0 ((World.alloc w2 (.cells #[.int .i64 q.code, .slice A2 q.recs.length c2, .int .i64 q.n] 31 (0, 0))).heap.size = (World.heap w2).size + 1) := ⟨by simp⟩
    try clear Hz_
    replace HB := Aside0.mk (below_step HB.out hb)
    replace BKp := Aside0.mk (blk_below BKp.out hb)
    replace hC0 := Aside0.mk (Kd.C_below hC0.out hb)
    replace hC2 := Aside0.mk (Kd.C_below hC2.out hb)
    clear hb
    generalize World.alloc w2 (.cells #[.int .i64 q.code, .slice A2 q.recs.length c2, .int .i64 q.n] 31 (0, 0)) = wb2 at HB BKp hC0 hC2 BKq Hn_ ⊢
    have Hz_ := Hn_
    clear Hn_
    clear Hz_
    refine (opE (pk, pkey, px, py, pv, pp0, pp1, pp2, pp3, pn) hk1.out _ l0 0 hk3.out.symm hk2.out.symm).mono ?_
    rintro e w3 ⟨A3, c3, rfl, hc3, hC3, hb⟩
    replace HB := Aside0.mk (below_step HB.out hb)
    replace BKp := Aside0.mk (blk_below BKp.out hb)
    replace BKq := Aside0.mk (blk_below BKq.out hb)
    replace hC0 := Aside0.mk (Kd.C_below hC0.out hb)
    replace hC2 := Aside0.mk (Kd.C_below hC2.out hb)
    clear hb
    replace hC3 := Aside0.mk hC3
    go_wp2_with fail
    refine (sameE A0 c0 _ l0 A3 c3 _ l0 _ rfl rfl hC0.out hc hC3.out hc3 HBY.out HBY.out true (by simp)).mono ?_
    rintro e w4 ⟨rfl, hb⟩
    replace HB := Aside0.mk (below_step HB.out hb)
    replace BKp := Aside0.mk (blk_below BKp.out hb)
    replace BKq := Aside0.mk (blk_below BKq.out hb)
    replace hC0 := Aside0.mk (Kd.C_below hC0.out hb)
    replace hC2 := Aside0.mk (Kd.C_below hC2.out hb)
    replace hC3 := Aside0.mk (Kd.C_below hC3.out hb)
    clear hb
    obtain ⟨fBKq_0, fBKq_1, fBKq_2⟩ := cells3 BKq.out
    have HZ_ := Aside0.mk (rfl : w4.heap.size = w4.heap.size)
    rcases hqB.out with ⟨rfl, g1, g2, g3⟩ | ⟨rfl, rfl | rfl⟩
    · skip
      try clear hqB hq
      replace g1 := Aside0.mk g1
      replace g2 := Aside0.mk g2
      replace g3 := Aside0.mk g3
      go_wp2_with fail
      refine (ansE q A2 c2 _ _ rfl hC2.out hc2 g2.out l0 0 g3.out.symm g1.out.symm).mono ?_
      rintro e w5 ⟨A5, c5, rfl, hc5, hC5, hb⟩
      replace HB := Aside0.mk (below_step HB.out hb)
      replace BKp := Aside0.mk (blk_below BKp.out hb)
      replace BKq := Aside0.mk (blk_below BKq.out hb)
      replace hC0 := Aside0.mk (Kd.C_below hC0.out hb)
      replace hC2 := Aside0.mk (Kd.C_below hC2.out hb)
      replace hC3 := Aside0.mk (Kd.C_below hC3.out hb)
      clear hb
      replace hC5 := Aside0.mk hC5
      clear fBKq_0 fBKq_1 fBKq_2
      go_wp2_with fail
      refine (sameE A0 c0 _ l0 A5 c5 _ l0 _ rfl rfl hC0.out hc hC5.out hc5 HBY.out HBY.out true (by simp)).mono ?_
      rintro e w6 ⟨rfl, hb⟩
      replace HB := Aside0.mk (below_step HB.out hb)
      replace BKp := Aside0.mk (blk_below BKp.out hb)
      replace BKq := Aside0.mk (blk_below BKq.out hb)
      replace hC0 := Aside0.mk (Kd.C_below hC0.out hb)
      replace hC2 := Aside0.mk (Kd.C_below hC2.out hb)
      replace hC3 := Aside0.mk (Kd.C_below hC3.out hb)
      replace hC5 := Aside0.mk (Kd.C_below hC5.out hb)
      clear hb
      go_wp2_with (go_at_call 8; refine (works_c _).mono ?_; rintro e w9 ⟨rfl, hb9⟩)
      go_ret
      exact ⟨rfl, below_step HB.out hb9⟩
    · skip
      try clear hqB hq
      dsimp only [noAns, List.length_nil] at *
      go_wp2_with fail
      refine (same21E noAns A2 c2 0 none 0 0 _ rfl rfl hC2.out hc2 (C_nil54 _) (Nat.le_refl 0) (by decide)).mono ?_
      rintro e w5 ⟨rfl, hb⟩
      replace HB := Aside0.mk (below_step HB.out hb)
      replace BKp := Aside0.mk (blk_below BKp.out hb)
      replace BKq := Aside0.mk (blk_below BKq.out hb)
      replace hC0 := Aside0.mk (Kd.C_below hC0.out hb)
      replace hC2 := Aside0.mk (Kd.C_below hC2.out hb)
      replace hC3 := Aside0.mk (Kd.C_below hC3.out hb)
      clear hb
      clear fBKq_0 fBKq_1 fBKq_2
      go_wp2_with (go_at_call 8; refine (works_c _).mono ?_; rintro e w9 ⟨rfl, hb9⟩)
      go_ret
      exact ⟨rfl, below_step HB.out hb9⟩
    · skip
      try clear hqB hq
      dsimp only [noAns, List.length_nil] at *
      go_wp2_with fail
      refine (same21E noAns A2 c2 0 none 0 0 _ rfl rfl hC2.out hc2 (C_nil54 _) (Nat.le_refl 0) (by decide)).mono ?_
      rintro e w5 ⟨rfl, hb⟩
      replace HB := Aside0.mk (below_step HB.out hb)
      replace BKp := Aside0.mk (blk_below BKp.out hb)
      replace BKq := Aside0.mk (blk_below BKq.out hb)
      replace hC0 := Aside0.mk (Kd.C_below hC0.out hb)
      replace hC2 := Aside0.mk (Kd.C_below hC2.out hb)
      replace hC3 := Aside0.mk (Kd.C_below hC3.out hb)
      clear hb
      clear fBKq_0 fBKq_1 fBKq_2
      go_wp2_with (go_at_call 8; refine (works_c _).mono ?_; rintro e w9 ⟨rfl, hb9⟩)
      go_ret
      exact ⟨rfl, below_step HB.out hb9⟩
  · skip
    rw [show opT noOp = #[.int .i64 0, .int .u64 0, .int .u32 0, .int .u32 0, .string ⟨#[]⟩, .int .u32 0, .int .u32 0, .int .u32 0, .int .u32 0, .int .i64 0] from rfl]
    go_wp2_with fail
    have hb := below_alloc (Below.refl (World.heap w1).size w1) (.cells #[.int .i64 0, .int .u64 0, .int .u32 0, .int .u32 0, .string ⟨#[]⟩, .int .u32 0, .int .u32 0, .int .u32 0, .int .u32 0, .int .i64 0] 27 (0, 0))
    have BKp := Aside0.mk (heap_alloc_new w1 (.cells #[.int .i64 0, .int .u64 0, .int .u32 0, .int .u32 0, .string ⟨#[]⟩, .int .u32 0, .int .u32 0, .int .u32 0, .int .u32 0, .int .i64 0] 27 (0, 0)))
    have Hn_ : Aside0 ((World.alloc w1 (.cells #[.int .i64 0, .int .u64 0, .int .u32 0, .int .u32 0, .string ⟨#[]⟩, .int .u32 0, .int .u32 0, .int .u32 0, .int .u32 0, .int .i64 0] 27 (0, 0))).heap.size = (World.heap w1).size + 1) := ⟨by simp⟩
    try clear Hz_
    replace HB := Aside0.mk (below_step HB.out hb)
    replace hC0 := Aside0.mk (Kd.C_below hC0.out hb)
    clear hb
    generalize World.alloc w1 (.cells #[.int .i64 0, .int .u64 0, .int .u32 0, .int .u32 0, .string ⟨#[]⟩, .int .u32 0, .int .u32 0, .int .u32 0, .int .u32 0, .int .i64 0] 27 (0, 0)) = wb1 at HB hC0 BKp Hn_ ⊢
    have Hz_ := Hn_
    clear Hn_
    clear Hz_
    refine (isAnsE A0 c0 _ l0 _ rfl hC0.out hc HBY.out (by have := q0.out; omega) q ca hq.out).mono ?_
    rintro e w2 ⟨A2, c2, rfl, hc2, hC2, hb⟩
    replace HB := Aside0.mk (below_step HB.out hb)
    replace BKp := Aside0.mk (blk_below BKp.out hb)
    replace hC0 := Aside0.mk (Kd.C_below hC0.out hb)
    clear hb
    replace hC2 := Aside0.mk hC2
    obtain ⟨fBKp_0, fBKp_1, fBKp_2, fBKp_3, fBKp_4, fBKp_5, fBKp_6, fBKp_7, fBKp_8, fBKp_9⟩ := cells10 (blk_below BKp.out (below_alloc (Below.refl (World.heap w2).size w2) (.cells #[.int .i64 q.code, .slice A2 q.recs.length c2, .int .i64 q.n] 31 (0, 0))))
    rcases hqB.out with ⟨rfl, g1, g2, g3⟩ | ⟨rfl, rfl | rfl⟩
    · skip
      try clear hqB hq
      replace g1 := Aside0.mk g1
      replace g2 := Aside0.mk g2
      replace g3 := Aside0.mk g3
      go_wp2_with fail
      clear fBKp_0 fBKp_1 fBKp_2 fBKp_3 fBKp_4 fBKp_5 fBKp_6 fBKp_7 fBKp_8 fBKp_9
      have hb := below_alloc (Below.refl (World.heap w2).size w2) (.cells #[.int .i64 q.code, .slice A2 q.recs.length c2, .int .i64 q.n] 31 (0, 0))
      have BKq := Aside0.mk (heap_alloc_new w2 (.cells #[.int .i64 q.code, .slice A2 q.recs.length c2, .int .i64 q.n] 31 (0, 0)))
      have Hn_ : Aside0 ((World.alloc w2 (.cells #[.int .i64 q.code, .slice A2 q.recs.length c2, .int .i64 q.n] 31 (0, 0))).heap.size = (World.heap w2).size + 1) := ⟨by simp⟩
      try clear Hz_
      replace HB := Aside0.mk (below_step HB.out hb)
      replace BKp := Aside0.mk (blk_below BKp.out hb)
      replace hC0 := Aside0.mk (Kd.C_below hC0.out hb)
      replace hC2 := Aside0.mk (Kd.C_below hC2.out hb)
      clear hb
      generalize World.alloc w2 (.cells #[.int .i64 q.code, .slice A2 q.recs.length c2, .int .i64 q.n] 31 (0, 0)) = wb2 at HB BKp hC0 hC2 BKq Hn_ ⊢
      have Hz_ := Hn_
      clear Hn_
      clear Hz_
      refine (ansE q A2 c2 _ _ rfl hC2.out hc2 g2.out l0 0 g3.out.symm g1.out.symm).mono ?_
      rintro e w5 ⟨A5, c5, rfl, hc5, hC5, hb⟩
      replace HB := Aside0.mk (below_step HB.out hb)
      replace BKp := Aside0.mk (blk_below BKp.out hb)
      replace BKq := Aside0.mk (blk_below BKq.out hb)
      replace hC0 := Aside0.mk (Kd.C_below hC0.out hb)
      replace hC2 := Aside0.mk (Kd.C_below hC2.out hb)
      clear hb
      replace hC5 := Aside0.mk hC5
      go_wp2_with fail
      refine (sameE A0 c0 _ l0 A5 c5 _ l0 _ rfl rfl hC0.out hc hC5.out hc5 HBY.out HBY.out true (by simp)).mono ?_
      rintro e w6 ⟨rfl, hb⟩
      replace HB := Aside0.mk (below_step HB.out hb)
      replace BKp := Aside0.mk (blk_below BKp.out hb)
      replace BKq := Aside0.mk (blk_below BKq.out hb)
      replace hC0 := Aside0.mk (Kd.C_below hC0.out hb)
      replace hC2 := Aside0.mk (Kd.C_below hC2.out hb)
      replace hC5 := Aside0.mk (Kd.C_below hC5.out hb)
      clear hb
      go_wp2_with (go_at_call 8; refine (works_c _).mono ?_; rintro e w9 ⟨rfl, hb9⟩)
      go_ret
      exact ⟨rfl, below_step HB.out hb9⟩
    · skip
      try clear hqB hq
      dsimp only [noAns, List.length_nil] at *
      go_wp2_with fail
      clear fBKp_0 fBKp_1 fBKp_2 fBKp_3 fBKp_4 fBKp_5 fBKp_6 fBKp_7 fBKp_8 fBKp_9
      have hb := below_alloc (Below.refl (World.heap w2).size w2) (.cells #[.int .i64 0, .slice A2 0 c2, .int .i64 0] 31 (0, 0))
      have BKq := Aside0.mk (heap_alloc_new w2 (.cells #[.int .i64 0, .slice A2 0 c2, .int .i64 0] 31 (0, 0)))
      have Hn_ : Aside0 ((World.alloc w2 (.cells #[.int .i64 0, .slice A2 0 c2, .int .i64 0] 31 (0, 0))).heap.size = (World.heap w2).size + 1) := ⟨by simp⟩
      try clear Hz_
      replace HB := Aside0.mk (below_step HB.out hb)
      replace BKp := Aside0.mk (blk_below BKp.out hb)
      replace hC0 := Aside0.mk (Kd.C_below hC0.out hb)
      replace hC2 := Aside0.mk (Kd.C_below hC2.out hb)
      clear hb
      generalize World.alloc w2 (.cells #[.int .i64 0, .slice A2 0 c2, .int .i64 0] 31 (0, 0)) = wb2 at HB BKp hC0 hC2 BKq Hn_ ⊢
      have Hz_ := Hn_
      clear Hn_
      clear Hz_
      refine (same21E noAns A2 c2 0 none 0 0 _ rfl rfl hC2.out hc2 (C_nil54 _) (Nat.le_refl 0) (by decide)).mono ?_
      rintro e w5 ⟨rfl, hb⟩
      replace HB := Aside0.mk (below_step HB.out hb)
      replace BKp := Aside0.mk (blk_below BKp.out hb)
      replace BKq := Aside0.mk (blk_below BKq.out hb)
      replace hC0 := Aside0.mk (Kd.C_below hC0.out hb)
      replace hC2 := Aside0.mk (Kd.C_below hC2.out hb)
      clear hb
      go_wp2_with (go_at_call 8; refine (works_c _).mono ?_; rintro e w9 ⟨rfl, hb9⟩)
      go_ret
      exact ⟨rfl, below_step HB.out hb9⟩
    · skip
      try clear hqB hq
      dsimp only [noAns, List.length_nil] at *
      go_wp2_with fail
      clear fBKp_0 fBKp_1 fBKp_2 fBKp_3 fBKp_4 fBKp_5 fBKp_6 fBKp_7 fBKp_8 fBKp_9
      have hb := below_alloc (Below.refl (World.heap w2).size w2) (.cells #[.int .i64 0, .slice A2 0 c2, .int .i64 0] 31 (0, 0))
      have BKq := Aside0.mk (heap_alloc_new w2 (.cells #[.int .i64 0, .slice A2 0 c2, .int .i64 0] 31 (0, 0)))
      have Hn_ : Aside0 ((World.alloc w2 (.cells #[.int .i64 0, .slice A2 0 c2, .int .i64 0] 31 (0, 0))).heap.size = (World.heap w2).size + 1) := ⟨by simp⟩
      try clear Hz_
      replace HB := Aside0.mk (below_step HB.out hb)
      replace BKp := Aside0.mk (blk_below BKp.out hb)
      replace hC0 := Aside0.mk (Kd.C_below hC0.out hb)
      replace hC2 := Aside0.mk (Kd.C_below hC2.out hb)
      clear hb
      generalize World.alloc w2 (.cells #[.int .i64 0, .slice A2 0 c2, .int .i64 0] 31 (0, 0)) = wb2 at HB BKp hC0 hC2 BKq Hn_ ⊢
      have Hz_ := Hn_
      clear Hn_
      clear Hz_
      refine (same21E noAns A2 c2 0 none 0 0 _ rfl rfl hC2.out hc2 (C_nil54 _) (Nat.le_refl 0) (by decide)).mono ?_
      rintro e w5 ⟨rfl, hb⟩
      replace HB := Aside0.mk (below_step HB.out hb)
      replace BKp := Aside0.mk (blk_below BKp.out hb)
      replace BKq := Aside0.mk (blk_below BKq.out hb)
      replace hC0 := Aside0.mk (Kd.C_below hC0.out hb)
      replace hC2 := Aside0.mk (Kd.C_below hC2.out hb)
      clear hb
      go_wp2_with (go_at_call 8; refine (works_c _).mono ?_; rintro e w9 ⟨rfl, hb9⟩)
      go_ret
      exact ⟨rfl, below_step HB.out hb9⟩
  · skip
    rw [show opT noOp = #[.int .i64 0, .int .u64 0, .int .u32 0, .int .u32 0, .string ⟨#[]⟩, .int .u32 0, .int .u32 0, .int .u32 0, .int .u32 0, .int .i64 0] from rfl]
    go_wp2_with fail
    have hb := below_alloc (Below.refl (World.heap w1).size w1) (.cells #[.int .i64 0, .int .u64 0, .int .u32 0, .int .u32 0, .string ⟨#[]⟩, .int .u32 0, .int .u32 0, .int .u32 0, .int .u32 0, .int .i64 0] 27 (0, 0))
    have BKp := Aside0.mk (heap_alloc_new w1 (.cells #[.int .i64 0, .int .u64 0, .int .u32 0, .int .u32 0, .string ⟨#[]⟩, .int .u32 0, .int .u32 0, .int .u32 0, .int .u32 0, .int .i64 0] 27 (0, 0)))
    have Hn_ : Aside0 ((World.alloc w1 (.cells #[.int .i64 0, .int .u64 0, .int .u32 0, .int .u32 0, .string ⟨#[]⟩, .int .u32 0, .int .u32 0, .int .u32 0, .int .u32 0, .int .i64 0] 27 (0, 0))).heap.size = (World.heap w1).size + 1) := ⟨by simp⟩
    try clear Hz_
    replace HB := Aside0.mk (below_step HB.out hb)
    replace hC0 := Aside0.mk (Kd.C_below hC0.out hb)
    clear hb
    generalize World.alloc w1 (.cells #[.int .i64 0, .int .u64 0, .int .u32 0, .int .u32 0, .string ⟨#[]⟩, .int .u32 0, .int .u32 0, .int .u32 0, .int .u32 0, .int .i64 0] 27 (0, 0)) = wb1 at HB hC0 BKp Hn_ ⊢
    have Hz_ := Hn_
    clear Hn_
    clear Hz_
    refine (isAnsE A0 c0 _ l0 _ rfl hC0.out hc HBY.out (by have := q0.out; omega) q ca hq.out).mono ?_
    rintro e w2 ⟨A2, c2, rfl, hc2, hC2, hb⟩
    replace HB := Aside0.mk (below_step HB.out hb)
    replace BKp := Aside0.mk (blk_below BKp.out hb)
    replace hC0 := Aside0.mk (Kd.C_below hC0.out hb)
    clear hb
    replace hC2 := Aside0.mk hC2
    obtain ⟨fBKp_0, fBKp_1, fBKp_2, fBKp_3, fBKp_4, fBKp_5, fBKp_6, fBKp_7, fBKp_8, fBKp_9⟩ := cells10 (blk_below BKp.out (below_alloc (Below.refl (World.heap w2).size w2) (.cells #[.int .i64 q.code, .slice A2 q.recs.length c2, .int .i64 q.n] 31 (0, 0))))
    rcases hqB.out with ⟨rfl, g1, g2, g3⟩ | ⟨rfl, rfl | rfl⟩
    · skip
      try clear hqB hq
      replace g1 := Aside0.mk g1
      replace g2 := Aside0.mk g2
      replace g3 := Aside0.mk g3
      go_wp2_with fail
      clear fBKp_0 fBKp_1 fBKp_2 fBKp_3 fBKp_4 fBKp_5 fBKp_6 fBKp_7 fBKp_8 fBKp_9
      have hb := below_alloc (Below.refl (World.heap w2).size w2) (.cells #[.int .i64 q.code, .slice A2 q.recs.length c2, .int .i64 q.n] 31 (0, 0))
      have BKq := Aside0.mk (heap_alloc_new w2 (.cells #[.int .i64 q.code, .slice A2 q.recs.length c2, .int .i64 q.n] 31 (0, 0)))
      have Hn_ : Aside0 ((World.alloc w2 (.cells #[.int .i64 q.code, .slice A2 q.recs.length c2, .int .i64 q.n] 31 (0, 0))).heap.size = (World.heap w2).size + 1) := ⟨by simp⟩
      try clear Hz_
      replace HB := Aside0.mk (below_step HB.out hb)
      replace BKp := Aside0.mk (blk_below BKp.out hb)
      replace hC0 := Aside0.mk (Kd.C_below hC0.out hb)
      replace hC2 := Aside0.mk (Kd.C_below hC2.out hb)
      clear hb
      generalize World.alloc w2 (.cells #[.int .i64 q.code, .slice A2 q.recs.length c2, .int .i64 q.n] 31 (0, 0)) = wb2 at HB BKp hC0 hC2 BKq Hn_ ⊢
      have Hz_ := Hn_
      clear Hn_
      clear Hz_
      refine (ansE q A2 c2 _ _ rfl hC2.out hc2 g2.out l0 0 g3.out.symm g1.out.symm).mono ?_
      rintro e w5 ⟨A5, c5, rfl, hc5, hC5, hb⟩
      replace HB := Aside0.mk (below_step HB.out hb)
      replace BKp := Aside0.mk (blk_below BKp.out hb)
      replace BKq := Aside0.mk (blk_below BKq.out hb)
      replace hC0 := Aside0.mk (Kd.C_below hC0.out hb)
      replace hC2 := Aside0.mk (Kd.C_below hC2.out hb)
      clear hb
      replace hC5 := Aside0.mk hC5
      go_wp2_with fail
      refine (sameE A0 c0 _ l0 A5 c5 _ l0 _ rfl rfl hC0.out hc hC5.out hc5 HBY.out HBY.out true (by simp)).mono ?_
      rintro e w6 ⟨rfl, hb⟩
      replace HB := Aside0.mk (below_step HB.out hb)
      replace BKp := Aside0.mk (blk_below BKp.out hb)
      replace BKq := Aside0.mk (blk_below BKq.out hb)
      replace hC0 := Aside0.mk (Kd.C_below hC0.out hb)
      replace hC2 := Aside0.mk (Kd.C_below hC2.out hb)
      replace hC5 := Aside0.mk (Kd.C_below hC5.out hb)
      clear hb
      go_wp2_with (go_at_call 8; refine (works_c _).mono ?_; rintro e w9 ⟨rfl, hb9⟩)
      go_ret
      exact ⟨rfl, below_step HB.out hb9⟩
    · skip
      try clear hqB hq
      dsimp only [noAns, List.length_nil] at *
      go_wp2_with fail
      clear fBKp_0 fBKp_1 fBKp_2 fBKp_3 fBKp_4 fBKp_5 fBKp_6 fBKp_7 fBKp_8 fBKp_9
      have hb := below_alloc (Below.refl (World.heap w2).size w2) (.cells #[.int .i64 0, .slice A2 0 c2, .int .i64 0] 31 (0, 0))
      have BKq := Aside0.mk (heap_alloc_new w2 (.cells #[.int .i64 0, .slice A2 0 c2, .int .i64 0] 31 (0, 0)))
      have Hn_ : Aside0 ((World.alloc w2 (.cells #[.int .i64 0, .slice A2 0 c2, .int .i64 0] 31 (0, 0))).heap.size = (World.heap w2).size + 1) := ⟨by simp⟩
      try clear Hz_
      replace HB := Aside0.mk (below_step HB.out hb)
      replace BKp := Aside0.mk (blk_below BKp.out hb)
      replace hC0 := Aside0.mk (Kd.C_below hC0.out hb)
      replace hC2 := Aside0.mk (Kd.C_below hC2.out hb)
      clear hb
      generalize World.alloc w2 (.cells #[.int .i64 0, .slice A2 0 c2, .int .i64 0] 31 (0, 0)) = wb2 at HB BKp hC0 hC2 BKq Hn_ ⊢
      have Hz_ := Hn_
      clear Hn_
      clear Hz_
      refine (same21E noAns A2 c2 0 none 0 0 _ rfl rfl hC2.out hc2 (C_nil54 _) (Nat.le_refl 0) (by decide)).mono ?_
      rintro e w5 ⟨rfl, hb⟩
      replace HB := Aside0.mk (below_step HB.out hb)
      replace BKp := Aside0.mk (blk_below BKp.out hb)
      replace BKq := Aside0.mk (blk_below BKq.out hb)
      replace hC0 := Aside0.mk (Kd.C_below hC0.out hb)
      replace hC2 := Aside0.mk (Kd.C_below hC2.out hb)
      clear hb
      go_wp2_with (go_at_call 8; refine (works_c _).mono ?_; rintro e w9 ⟨rfl, hb9⟩)
      go_ret
      exact ⟨rfl, below_step HB.out hb9⟩
    · skip
      try clear hqB hq
      dsimp only [noAns, List.length_nil] at *
      go_wp2_with fail
      clear fBKp_0 fBKp_1 fBKp_2 fBKp_3 fBKp_4 fBKp_5 fBKp_6 fBKp_7 fBKp_8 fBKp_9
      have hb := below_alloc (Below.refl (World.heap w2).size w2) (.cells #[.int .i64 0, .slice A2 0 c2, .int .i64 0] 31 (0, 0))
      have BKq := Aside0.mk (heap_alloc_new w2 (.cells #[.int .i64 0, .slice A2 0 c2, .int .i64 0] 31 (0, 0)))
      have Hn_ : Aside0 ((World.alloc w2 (.cells #[.int .i64 0, .slice A2 0 c2, .int .i64 0] 31 (0, 0))).heap.size = (World.heap w2).size + 1) := ⟨by simp⟩
      try clear Hz_
      replace HB := Aside0.mk (below_step HB.out hb)
      replace BKp := Aside0.mk (blk_below BKp.out hb)
      replace hC0 := Aside0.mk (Kd.C_below hC0.out hb)
      replace hC2 := Aside0.mk (Kd.C_below hC2.out hb)
      clear hb
      generalize World.alloc w2 (.cells #[.int .i64 0, .slice A2 0 c2, .int .i64 0] 31 (0, 0)) = wb2 at HB BKp hC0 hC2 BKq Hn_ ⊢
      have Hz_ := Hn_
      clear Hn_
      clear Hz_
      refine (same21E noAns A2 c2 0 none 0 0 _ rfl rfl hC2.out hc2 (C_nil54 _) (Nat.le_refl 0) (by decide)).mono ?_
      rintro e w5 ⟨rfl, hb⟩
      replace HB := Aside0.mk (below_step HB.out hb)
      replace BKp := Aside0.mk (blk_below BKp.out hb)
      replace BKq := Aside0.mk (blk_below BKq.out hb)
      replace hC0 := Aside0.mk (Kd.C_below hC0.out hb)
      replace hC2 := Aside0.mk (Kd.C_below hC2.out hb)
      clear hb
      go_wp2_with (go_at_call 8; refine (works_c _).mono ?_; rintro e w9 ⟨rfl, hb9⟩)
      go_ret
      exact ⟨rfl, below_step HB.out hb9⟩
theorem opByte : Opens2.Op Try.prog 5 (Kd.int .u8) (fun n => (Lit.int .u8 n).wf = true) := Opens2.op_int Try.underlying5 (by kernel_rfl)
theorem counterpanelaw33_ParcelOne.walk0 (W : World) (A0 : Option Addr) (c0 : Nat) (xs0 : List Int) (hC0 : Kd.C (Kd.int .u8) W A0 xs0.length xs0) (hc0 : xs0.length ≤ c0) (hm0 : xs0.length ≤ maxLen) (hok0 : ∀ x ∈ xs0, (Lit.int .u8 x).wf = true) :
    Calls Try.prog 5 #[.slice A0 xs0.length c0] W fun e w' => e = .returned (.bool true) ∧ Below W.heap.size W w' :=
  one_core W A0 c0 xs0 hC0 hc0 (fun x hx => by have := hok0 x hx; simp [Lit.wf, IntKind.min, IntKind.max, IntKind.signed, IntKind.bits] at this; omega)
end Go.Proofs.Ytnhkpolfkmpldaa.PAll
