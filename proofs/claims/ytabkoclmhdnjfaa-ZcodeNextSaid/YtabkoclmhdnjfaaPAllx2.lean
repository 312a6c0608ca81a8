/- The functions that the laws of this seat reach, as plain functions with proofs that the calls answer just so (written by a program of this session on the kit's print). -/
import Derived.Test.YtabkoclmhdnjfaaPAllx0
namespace Go.Proofs.Ytabkoclmhdnjfaa.PAll
open Go.RowKit Go.Proofs.YtabkoclmhdnjfaaW.PrintWords Go.Proofs.YtabkoclmhdnjfaaW.PrintLast Go.Proofs.YtabkoclmhdnjfaaW.PrintMore
attribute [local go_sem] max2_int min2_int max_two min_two max_three min_three max_four min_four   -- for this text's walks alone
set_option linter.unusedVariables false
set_option linter.unusedSimpArgs false

/-! ### zcode_gather: function 16 -/
-- GIVEN rounds=0 making=1
theorem zcode_gather.i0 (w : World) : (Instr.index 47 (.agg #[.int .i64 1, .int .u64 3689348814741910323, .int .i64 2, .int .u64 1085102592571150095, .int .i64 4, .int .u64 71777214294589695, .int .i64 8, .int .u64 281470681808895, .int .i64 16, .int .u64 4294967295]) (.int .i64 0)).run Try.prog w = .ok (.agg #[.int .i64 1, .int .u64 3689348814741910323]) w := by kernel_rfl
theorem zcode_gather.i1 (w : World) : (Instr.index 47 (.agg #[.int .i64 1, .int .u64 3689348814741910323, .int .i64 2, .int .u64 1085102592571150095, .int .i64 4, .int .u64 71777214294589695, .int .i64 8, .int .u64 281470681808895, .int .i64 16, .int .u64 4294967295]) (.int .i64 1)).run Try.prog w = .ok (.agg #[.int .i64 2, .int .u64 1085102592571150095]) w := by kernel_rfl
theorem zcode_gather.i2 (w : World) : (Instr.index 47 (.agg #[.int .i64 1, .int .u64 3689348814741910323, .int .i64 2, .int .u64 1085102592571150095, .int .i64 4, .int .u64 71777214294589695, .int .i64 8, .int .u64 281470681808895, .int .i64 16, .int .u64 4294967295]) (.int .i64 2)).run Try.prog w = .ok (.agg #[.int .i64 4, .int .u64 71777214294589695]) w := by kernel_rfl
theorem zcode_gather.i3 (w : World) : (Instr.index 47 (.agg #[.int .i64 1, .int .u64 3689348814741910323, .int .i64 2, .int .u64 1085102592571150095, .int .i64 4, .int .u64 71777214294589695, .int .i64 8, .int .u64 281470681808895, .int .i64 16, .int .u64 4294967295]) (.int .i64 3)).run Try.prog w = .ok (.agg #[.int .i64 8, .int .u64 281470681808895]) w := by kernel_rfl
theorem zcode_gather.i4 (w : World) : (Instr.index 47 (.agg #[.int .i64 1, .int .u64 3689348814741910323, .int .i64 2, .int .u64 1085102592571150095, .int .i64 4, .int .u64 71777214294589695, .int .i64 8, .int .u64 281470681808895, .int .i64 16, .int .u64 4294967295]) (.int .i64 4)).run Try.prog w = .ok (.agg #[.int .i64 16, .int .u64 4294967295]) w := by kernel_rfl
def zcode_gather.g0 (n : Int) : Int := Go.bits .and .u64 (Go.bits .or .u64 n (n / 2)) 3689348814741910323
def zcode_gather.g1 (n : Int) : Int := Go.bits .and .u64 (Go.bits .or .u64 n (n / 4)) 1085102592571150095
def zcode_gather.g2 (n : Int) : Int := Go.bits .and .u64 (Go.bits .or .u64 n (n / 16)) 71777214294589695
def zcode_gather.g3 (n : Int) : Int := Go.bits .and .u64 (Go.bits .or .u64 n (n / 256)) 281470681808895
def zcode_gather.g4 (n : Int) : Int := Go.bits .and .u64 (Go.bits .or .u64 n (n / 65536)) 4294967295
def zcode_gather.v (a0 : Int) : Int := ((zcode_gather.g4 (zcode_gather.g3 (zcode_gather.g2 (zcode_gather.g1 (zcode_gather.g0 (Go.bits .and .u64 a0 6148914691236517205))))))) % 4294967296
def zcode_gather.f (a0 : Int) : Option (Int) := some (zcode_gather.v a0)
set_option maxHeartbeats 2000000 in
set_option maxRecDepth 100000 in
theorem zcode_gather.calls (a0 : Int) (r : Int) (w : World) (h : zcode_gather.f a0 = some r) : Calls Try.prog 16 #[.int .u64 a0] w fun e w' => e = .returned (.int .u32 r) ∧ Below w.heap.size w w' := by
  obtain rfl := Option.some.inj h
  clear h
  have i0 := zcode_gather.i0
  have i1 := zcode_gather.i1
  have i2 := zcode_gather.i2
  have i3 := zcode_gather.i3
  have i4 := zcode_gather.i4
  go_enter Try.func16, Try.ntmps16
  go_wp2
  obtain ⟨n0, hn0⟩ : ∃ x, Go.bits .and .u64 a0 6148914691236517205 = x := ⟨_, rfl⟩
  rw [hn0]
  replace hn0 := Aside0.mk hn0
  refine wp_loop_rounds 6 ?_
  rw [rounds_succ]
  go_wp2
  go_quiet (fail)
  go_wp2
  obtain ⟨n1, hn1⟩ : ∃ x, zcode_gather.g0 n0 = x := ⟨_, rfl⟩
  rw [show Go.bits .and .u64 (Go.bits .or .u64 n0 (n0 / 2)) 3689348814741910323 = n1 from hn1]
  replace hn1 := Aside0.mk hn1
  rw [rounds_succ]
  go_wp2
  go_quiet (fail)
  go_wp2
  obtain ⟨n2, hn2⟩ : ∃ x, zcode_gather.g1 n1 = x := ⟨_, rfl⟩
  rw [show Go.bits .and .u64 (Go.bits .or .u64 n1 (n1 / 4)) 1085102592571150095 = n2 from hn2]
  replace hn2 := Aside0.mk hn2
  rw [rounds_succ]
  go_wp2
  go_quiet (fail)
  go_wp2
  obtain ⟨n3, hn3⟩ : ∃ x, zcode_gather.g2 n2 = x := ⟨_, rfl⟩
  rw [show Go.bits .and .u64 (Go.bits .or .u64 n2 (n2 / 16)) 71777214294589695 = n3 from hn3]
  replace hn3 := Aside0.mk hn3
  rw [rounds_succ]
  go_wp2
  go_quiet (fail)
  go_wp2
  obtain ⟨n4, hn4⟩ : ∃ x, zcode_gather.g3 n3 = x := ⟨_, rfl⟩
  rw [show Go.bits .and .u64 (Go.bits .or .u64 n3 (n3 / 256)) 281470681808895 = n4 from hn4]
  replace hn4 := Aside0.mk hn4
  rw [rounds_succ]
  go_wp2
  go_quiet (fail)
  go_wp2
  obtain ⟨n5, hn5⟩ : ∃ x, zcode_gather.g4 n4 = x := ⟨_, rfl⟩
  rw [show Go.bits .and .u64 (Go.bits .or .u64 n4 (n4 / 65536)) 4294967295 = n5 from hn5]
  replace hn5 := Aside0.mk hn5
  rw [rounds_succ]
  go_wp2
  go_ret
  refine ⟨?_, by repeat (first | exact Below.refl _ _ | apply below_alloc | apply pw_below_drewN | apply below_drew1)⟩
  rw [zcode_gather.v, hn0.out, hn1.out, hn2.out, hn3.out, hn4.out, hn5.out]
  rfl

end Go.Proofs.Ytabkoclmhdnjfaa.PAll
