/- The functions that the laws of this seat reach, as plain functions with proofs that the calls answer just so (written by a program of this session on the kit's print). -/
import Derived.Test.YtabkoclmhdnjfaaPAllx0
namespace Go.Proofs.Ytabkoclmhdnjfaa.PAll
open Go.RowKit Go.Proofs.YtabkoclmhdnjfaaW.PrintWords Go.Proofs.YtabkoclmhdnjfaaW.PrintLast Go.Proofs.YtabkoclmhdnjfaaW.PrintMore
attribute [local go_sem] max2_int min2_int max_two min_two max_three min_three max_four min_four   -- for this text's walks alone
set_option linter.unusedVariables false
set_option linter.unusedSimpArgs false

theorem arr_part {P : Program} (e : Nat) (k : IntKind) (w : World) (he : P.underlying e = some (.int k)) (zs : List Int) (i : Nat) (hi : i < zs.length) : (part e (zs.map (Value.int k)).toArray (i * 1)).run P w = .ok (.int k zs[i]) w := by
  have ha : (isAgg e).run P w = .ok false w := by
    unfold isAgg
    rw [Sem.run_bind, run_underlying he]
    simp
  unfold part
  rw [Sem.run_bind, ha]
  simp [Nat.mul_one, hi]
theorem arr_loop {P : Program} (d e : Nat) (k : IntKind) (w : World) (he : P.underlying e = some (.int k)) (xs ys : List Int) (hl : xs.length = ys.length) (m : Nat) : ∀ j, j + m = xs.length →
    (forIn (List.range' j m 1) ((none, ()) : Option Bool × Unit) fun i __s => do
      let a ← part e (xs.map (Value.int k)).toArray (i * 1)
      let b ← part e (ys.map (Value.int k)).toArray (i * 1)
      let r ← Op.equalIn (d + 1) e a b
      if (!r) = true then pure (ForInStep.done (some false, ())) else pure (ForInStep.yield (none, ()))).run P w = .ok (if xs.drop j == ys.drop j then (none, ()) else (some false, ())) w := by
  induction m with
  | zero =>
    intro j hj
    have h1 : xs.drop j = [] := List.drop_of_length_le (by omega)
    have h2 : ys.drop j = [] := List.drop_of_length_le (by omega)
    rw [h1, h2]
    simp
  | succ m ih =>
    intro j hj
    have hx : j < xs.length := by omega
    have hy : j < ys.length := by omega
    rw [List.range'_succ, List.forIn_cons]
    simp only [Sem.run_bind, arr_part e k w he xs j hx, arr_part e k w he ys j hy, Result.andThen_ok, run_equalIn_int w d e k k _ _ he]
    rw [List.drop_eq_getElem_cons hx, List.drop_eq_getElem_cons hy, List.cons_beq_cons]
    by_cases h : xs[j] = ys[j]
    · have hb : (xs[j] == ys[j]) = true := by simpa using h
      rw [hb]
      simp only [Bool.not_true, Bool.false_eq_true, if_false, Sem.run_pure, Result.andThen_ok]
      rw [ih (j + 1) (by omega), Bool.true_and]
    · have hb : (xs[j] == ys[j]) = false := by simpa using h
      rw [hb]
      simp only [Bool.not_false, if_true, Sem.run_pure, Result.andThen_ok, Bool.false_and, Bool.false_eq_true, if_false]
/-- '==' of two arrays of whole numbers. -/
theorem run_equalIn_array {P : Program} (d t e n : Nat) (k : IntKind) (w : World) (hu : P.underlying t = some (.array n e)) (he : P.underlying e = some (.int k)) (hs : (P.info? e).map (·.size) = some 1) (xs ys : List Int) (hx : xs.length = n) (hy : ys.length = n) :
    (Op.equalIn (d + 2) t (.agg (xs.map (Value.int k)).toArray) (.agg (ys.map (Value.int k)).toArray)).run P w = .ok (xs == ys) w := by
  have hz : (sizeOf e).run P w = .ok 1 w := by
    cases hq : P.info? e with
    | none => simp [hq] at hs
    | some i => simp [hq] at hs; simp [sizeOf, typeInfo, hq, hs, go_sem]
  rw [Op.equalIn.eq_def]
  simp only [Sem.run_bind, run_underlying hu, Result.andThen_ok, hz]
  rw [Std.Legacy.Range.forIn_eq_forIn_range']
  have hl := arr_loop d e k w he xs ys (by omega) n 0 (by omega)
  have hr : List.range' (Std.Legacy.Range.mk 0 n 1 (by decide)).start (Std.Legacy.Range.mk 0 n 1 (by decide)).size (Std.Legacy.Range.mk 0 n 1 (by decide)).step = List.range' 0 n 1 := by
    simp [Std.Legacy.Range.size]
  rw [hr, hl]
  simp only [List.drop_zero]
  by_cases h : xs = ys <;> simp [h]

theorem eqA45 (d : Nat) (w : World) (x0 y0 : Int) (x1 y1 : Int) (x2 y2 : Int) :
    (Op.equalIn (d + 2) 45 (.agg #[.int .u64 x0, .int .u64 x1, .int .u64 x2]) (.agg #[.int .u64 y0, .int .u64 y1, .int .u64 y2])).run Try.prog w = .ok (x0 == y0 && (x1 == y1 && (x2 == y2))) w := by
  have h := run_equalIn_array (P := Try.prog) d 45 23 3 .u64 w Try.underlying45 Try.underlying23 (by kernel_rfl) [x0, x1, x2] [y0, y1, y2] rfl rfl
  simpa using h
end Go.Proofs.Ytabkoclmhdnjfaa.PAll
