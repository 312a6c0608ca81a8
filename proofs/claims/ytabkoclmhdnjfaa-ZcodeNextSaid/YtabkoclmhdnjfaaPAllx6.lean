/- The functions that the laws of this seat reach, as plain functions with proofs that the calls answer just so (written by a program of this session on the kit's print). -/
import Derived.Test.YtabkoclmhdnjfaaPAllx0
namespace Go.Proofs.Ytabkoclmhdnjfaa.PAll
open Go.RowKit Go.Proofs.YtabkoclmhdnjfaaW.PrintWords Go.Proofs.YtabkoclmhdnjfaaW.PrintLast Go.Proofs.YtabkoclmhdnjfaaW.PrintMore
attribute [local go_sem] max2_int min2_int max_two min_two max_three min_three max_four min_four   -- for this text's walks alone
set_option linter.unusedVariables false
set_option linter.unusedSimpArgs false

/-! ### zcode_spread: function 18 -/
-- GIVEN rounds=0 making=1
theorem zcode_spread.i0 (w : World) : (Instr.index 47 (.agg #[.int .i64 16, .int .u64 281470681808895, .int .i64 8, .int .u64 71777214294589695, .int .i64 4, .int .u64 1085102592571150095, .int .i64 2, .int .u64 3689348814741910323, .int .i64 1, .int .u64 6148914691236517205]) (.int .i64 0)).run Try.prog w = .ok (.agg #[.int .i64 16, .int .u64 281470681808895]) w := by kernel_rfl
theorem zcode_spread.i1 (w : World) : (Instr.index 47 (.agg #[.int .i64 16, .int .u64 281470681808895, .int .i64 8, .int .u64 71777214294589695, .int .i64 4, .int .u64 1085102592571150095, .int .i64 2, .int .u64 3689348814741910323, .int .i64 1, .int .u64 6148914691236517205]) (.int .i64 1)).run Try.prog w = .ok (.agg #[.int .i64 8, .int .u64 71777214294589695]) w := by kernel_rfl
theorem zcode_spread.i2 (w : World) : (Instr.index 47 (.agg #[.int .i64 16, .int .u64 281470681808895, .int .i64 8, .int .u64 71777214294589695, .int .i64 4, .int .u64 1085102592571150095, .int .i64 2, .int .u64 3689348814741910323, .int .i64 1, .int .u64 6148914691236517205]) (.int .i64 2)).run Try.prog w = .ok (.agg #[.int .i64 4, .int .u64 1085102592571150095]) w := by kernel_rfl
theorem zcode_spread.i3 (w : World) : (Instr.index 47 (.agg #[.int .i64 16, .int .u64 281470681808895, .int .i64 8, .int .u64 71777214294589695, .int .i64 4, .int .u64 1085102592571150095, .int .i64 2, .int .u64 3689348814741910323, .int .i64 1, .int .u64 6148914691236517205]) (.int .i64 3)).run Try.prog w = .ok (.agg #[.int .i64 2, .int .u64 3689348814741910323]) w := by kernel_rfl
theorem zcode_spread.i4 (w : World) : (Instr.index 47 (.agg #[.int .i64 16, .int .u64 281470681808895, .int .i64 8, .int .u64 71777214294589695, .int .i64 4, .int .u64 1085102592571150095, .int .i64 2, .int .u64 3689348814741910323, .int .i64 1, .int .u64 6148914691236517205]) (.int .i64 4)).run Try.prog w = .ok (.agg #[.int .i64 1, .int .u64 6148914691236517205]) w := by kernel_rfl
def zcode_spread.g0 (n : Int) : Int := Go.bits .and .u64 (Go.bits .or .u64 n (IntKind.u64.wrap (n * 65536))) 281470681808895
def zcode_spread.g1 (n : Int) : Int := Go.bits .and .u64 (Go.bits .or .u64 n (IntKind.u64.wrap (n * 256))) 71777214294589695
def zcode_spread.g2 (n : Int) : Int := Go.bits .and .u64 (Go.bits .or .u64 n (IntKind.u64.wrap (n * 16))) 1085102592571150095
def zcode_spread.g3 (n : Int) : Int := Go.bits .and .u64 (Go.bits .or .u64 n (IntKind.u64.wrap (n * 4))) 3689348814741910323
def zcode_spread.g4 (n : Int) : Int := Go.bits .and .u64 (Go.bits .or .u64 n (IntKind.u64.wrap (n * 2))) 6148914691236517205
def zcode_spread.v (a0 : Int) : Int := (zcode_spread.g4 (zcode_spread.g3 (zcode_spread.g2 (zcode_spread.g1 (zcode_spread.g0 (IntKind.u64.wrap a0))))))
def zcode_spread.f (a0 : Int) : Option (Int) := some (zcode_spread.v a0)
set_option maxHeartbeats 2000000 in
set_option maxRecDepth 100000 in
theorem zcode_spread.calls (a0 : Int) (r : Int) (w : World) (h : zcode_spread.f a0 = some r) : Calls Try.prog 18 #[.int .u32 a0] w fun e w' => e = .returned (.int .u64 r) ∧ Below w.heap.size w w' := by
  obtain rfl := Option.some.inj h
  clear h
  have i0 := zcode_spread.i0
  have i1 := zcode_spread.i1
  have i2 := zcode_spread.i2
  have i3 := zcode_spread.i3
  have i4 := zcode_spread.i4
  go_enter Try.func18, Try.ntmps18
  go_wp2
  obtain ⟨n0, hn0⟩ : ∃ x, IntKind.u64.wrap a0 = x := ⟨_, rfl⟩
  rw [hn0]
  replace hn0 := Aside0.mk hn0
  refine wp_loop_rounds 6 ?_
  rw [rounds_succ]
  go_wp2
  go_quiet (fail)
  go_wp2
  obtain ⟨n1, hn1⟩ : ∃ x, zcode_spread.g0 n0 = x := ⟨_, rfl⟩
  rw [show Go.bits .and .u64 (Go.bits .or .u64 n0 (IntKind.u64.wrap (n0 * 65536))) 281470681808895 = n1 from hn1]
  replace hn1 := Aside0.mk hn1
  rw [rounds_succ]
  go_wp2
  go_quiet (fail)
  go_wp2
  obtain ⟨n2, hn2⟩ : ∃ x, zcode_spread.g1 n1 = x := ⟨_, rfl⟩
  rw [show Go.bits .and .u64 (Go.bits .or .u64 n1 (IntKind.u64.wrap (n1 * 256))) 71777214294589695 = n2 from hn2]
  replace hn2 := Aside0.mk hn2
  rw [rounds_succ]
  go_wp2
  go_quiet (fail)
  go_wp2
  obtain ⟨n3, hn3⟩ : ∃ x, zcode_spread.g2 n2 = x := ⟨_, rfl⟩
  rw [show Go.bits .and .u64 (Go.bits .or .u64 n2 (IntKind.u64.wrap (n2 * 16))) 1085102592571150095 = n3 from hn3]
  replace hn3 := Aside0.mk hn3
  rw [rounds_succ]
  go_wp2
  go_quiet (fail)
  go_wp2
  obtain ⟨n4, hn4⟩ : ∃ x, zcode_spread.g3 n3 = x := ⟨_, rfl⟩
  rw [show Go.bits .and .u64 (Go.bits .or .u64 n3 (IntKind.u64.wrap (n3 * 4))) 3689348814741910323 = n4 from hn4]
  replace hn4 := Aside0.mk hn4
  rw [rounds_succ]
  go_wp2
  go_quiet (fail)
  go_wp2
  obtain ⟨n5, hn5⟩ : ∃ x, zcode_spread.g4 n4 = x := ⟨_, rfl⟩
  rw [show Go.bits .and .u64 (Go.bits .or .u64 n4 (IntKind.u64.wrap (n4 * 2))) 6148914691236517205 = n5 from hn5]
  replace hn5 := Aside0.mk hn5
  rw [rounds_succ]
  go_wp2
  go_ret
  refine ⟨?_, by repeat (first | exact Below.refl _ _ | apply below_alloc | apply pw_below_drewN | apply below_drew1)⟩
  rw [zcode_spread.v, hn0.out, hn1.out, hn2.out, hn3.out, hn4.out, hn5.out]
  rfl

end Go.Proofs.Ytabkoclmhdnjfaa.PAll
