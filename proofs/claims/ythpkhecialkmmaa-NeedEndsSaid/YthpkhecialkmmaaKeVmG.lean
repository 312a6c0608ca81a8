/- A logic of values over the model. Part G: slices cut and copied, texts, what is compared, functions held as values. -/
import Derived.Test.YthpkhecialkmmaaKeVmF
import Derived.ChangeKeysEq
import Derived.DeepKeys
import Derived.Laws.StructEq
set_option linter.unusedVariables false
set_option linter.unusedSimpArgs false
namespace Go.Vm
section
variable {P : Program} {o : Oper} {t : Nat → V} {pre up : List (Nat × Box)} {val : V}
/-! ### Cut -/
theorem RowsAt.dropped {X : Ctx} {e : Nat} : ∀ {xs : List (List V)} {b q : Nat} (i : Nat), RowsAt X e xs b q → RowsAt X e (xs.drop i) b (q + i * e)
  | [], b, q, i, h => by simp [RowsAt]
  | r :: rs, b, q, i, h => by
    cases i with
    | zero => simpa using h
    | succ i =>
      simp only [RowsAt] at h
      have := RowsAt.dropped i h.2.2
      rw [show q + (i + 1) * e = q + e + i * e by rw [Nat.add_mul]; omega]
      simpa using this
/-! ### copy -/
/-! ### What is compared -/
def eqC : Value → Value → Bool
  | .int _ a, .int _ b => a == b
  | .bool a, .bool b => a == b
  | .string a, .string b => a == b
  | _, _ => false
def eqCs : List Value → List Value → Bool
  | [], [] => true
  | a :: as, b :: bs => eqC a b && eqCs as bs
  | _, _ => false
inductive CK where
  | i (k : IntKind)
  | b
  | s
  deriving DecidableEq
def CK.fits : CK → Value → Bool
  | .i k, .int k' _ => k == k'
  | .b, .bool _ => true
  | .s, .string _ => true
  | _, _ => false
def fitsL : List CK → List Value → Bool
  | [], [] => true
  | c :: cs, v :: vs => c.fits v && fitsL cs vs
  | _, _ => false
/-- Fields' cells, one behind the other. -/
def shapeFok (P : Program) (off : Nat) (fd : Field) (sh : List CK) : Bool := (fd.offset == off) && (fd.name != "_" && ((P.cellsOf fd.type == sh.length) && ((P.info? fd.type).isSome && !(sh.length == 0))))
def shapeF (P : Program) (f : TypeId → Option (List CK)) : Nat → List Field → Option (List CK)
  | _, [] => some []
  | off, fd :: fs => match f fd.type with
    | some sh => match shapeFok P off fd sh with
      | true => (shapeF P f (off + sh.length) fs).map (sh ++ ·)
      | false => none
    | none => none
def shapeAok (P : Program) (e : TypeId) (sh : List CK) : Bool := (P.cellsOf e == sh.length) && ((P.info? e).isSome && !(sh.length == 0))
/-- The cells of a type of numbers, truths, texts, and of structs and arrays of these. -/
def shapeOf (P : Program) : Nat → TypeId → Option (List CK)
  | 0, _ => none
  | d + 1, t =>
    match P.underlying t with
    | some (.int k) => some [.i k]
    | some .bool => some [.b]
    | some .string => some [.s]
    | some (.array n e) => match shapeOf P d e with
      | some sh => match shapeAok P e sh with
        | true => some (List.replicate n sh).flatten
        | false => none
      | none => none
    | some (.struct fs) => match P.stoodInHeld t with
      | false => shapeF P (shapeOf P d) 0 fs.toList
      | true => none
    | _ => none
end
section
variable {P : Program} {o : Oper} {t : Nat → V} {pre up : List (Nat × Box)} {val : V}
def valOf (P : Program) (t : TypeId) (xs : List Value) : Value :=
  match P.underlying t with
  | some (.array _ _) | some (.struct _) => .agg xs.toArray
  | _ => xs.headD undef
theorem fitsL_len : ∀ {sh : List CK} {xs : List Value}, fitsL sh xs = true → xs.length = sh.length
  | [], [], h => rfl
  | [], _ :: _, h => by simp [fitsL] at h
  | _ :: _, [], h => by simp [fitsL] at h
  | c :: cs, x :: xs, h => by simp only [fitsL, Bool.and_eq_true] at h; simp [fitsL_len h.2]
theorem fitsL_append : ∀ {s1 s2 : List CK} {xs : List Value}, fitsL (s1 ++ s2) xs = true → fitsL s1 (xs.take s1.length) = true ∧ fitsL s2 (xs.drop s1.length) = true
  | [], s2, xs, h => by simpa [fitsL] using h
  | c :: s1, s2, [], h => by simp [fitsL] at h
  | c :: s1, s2, x :: xs, h => by
    simp only [List.cons_append, fitsL, Bool.and_eq_true] at h
    obtain ⟨h1, h2⟩ := fitsL_append h.2
    simp [fitsL, h.1, h1, h2]
theorem eqCs_append : ∀ (a b c d : List Value), a.length = b.length → eqCs (a ++ c) (b ++ d) = (eqCs a b && eqCs c d)
  | [], [], c, d, h => by simp [eqCs]
  | [], _ :: _, c, d, h => by simp at h
  | _ :: _, [], c, d, h => by simp at h
  | x :: a, y :: b, c, d, h => by simp only [List.cons_append, eqCs]; rw [eqCs_append a b c d (by simpa using h), Bool.and_assoc]
theorem fits_one {c : CK} {xs : List Value} (h : fitsL [c] xs = true) : ∃ x, xs = [x] ∧ c.fits x = true := by
  match xs, h with
  | [x], h => exact ⟨x, rfl, by simpa [fitsL] using h⟩
  | [], h => simp [fitsL] at h
  | x :: y :: xs, h => simp [fitsL] at h
theorem fits_i {k : IntKind} {v : Value} (h : (CK.i k).fits v = true) : ∃ n, v = .int k n := by
  cases v with
  | int k' n => have : k = k' := by simpa [CK.fits] using h
                subst this; exact ⟨n, rfl⟩
  | _ => cases h
theorem fits_b {v : Value} (h : CK.b.fits v = true) : ∃ b, v = .bool b := by cases v <;> first | exact ⟨_, rfl⟩ | cases h
theorem fits_s {v : Value} (h : CK.s.fits v = true) : ∃ b, v = .string b := by cases v <;> first | exact ⟨_, rfl⟩ | cases h
theorem shape_one {d : Nat} {e : TypeId} {sh : List CK} (h : shapeOf P d e = some sh) : ∃ k, P.underlying e = some k ∧ (aggD k = false → sh.length = 1) := by
  cases d with
  | zero => simp [shapeOf] at h
  | succ d =>
    unfold shapeOf at h
    split at h
    · rename_i k hu; cases h; exact ⟨_, hu, fun _ => rfl⟩
    · rename_i hu; cases h; exact ⟨_, hu, fun _ => rfl⟩
    · rename_i hu; cases h; exact ⟨_, hu, fun _ => rfl⟩
    · rename_i n e' hu; exact ⟨_, hu, fun h => by simp [aggD] at h⟩
    · rename_i fs hu; exact ⟨_, hu, fun h => by simp [aggD] at h⟩
    · cases h
theorem run_part_val {e : TypeId} {us : List Value} {off d : Nat} {sh : List CK} {w : World} (hse : shapeOf P d e = some sh) (hi : (P.info? e).isSome = true) (hc : P.cellsOf e = sh.length) (hl : off + sh.length ≤ us.length) :
    (part e us.toArray off).run P w = .ok (valOf P e ((us.drop off).take sh.length)) w := by
  obtain ⟨d, hd, hm⟩ := shape_one hse
  have hs : (P.info? e).map (·.size) = some sh.length := by
    unfold Program.cellsOf at hc
    cases h : P.info? e with
    | none => simp [h] at hi
    | some i => simp [h] at hc ⊢; exact hc
  by_cases ha : aggD d = true
  · rw [run_part_agg hd ha hs]
    unfold valOf
    rw [hd]
    cases d <;> first | rfl | (simp [aggD] at ha; done)
  · have ha' : aggD d = false := by simpa using ha
    have hm1 := hm ha'
    rw [hm1] at hl ⊢
    have hu : us[off]? = some us[off] := List.getElem?_eq_getElem (by omega)
    rw [run_part_one hd ha' hu]
    unfold valOf
    rw [hd]
    have : ((us.drop off).take 1).headD undef = us[off] := by
      rw [List.drop_eq_getElem_cons (by omega)]; rfl
    cases d <;> first | (simp [aggD] at ha'; done) | (rw [this])
theorem run_items {d D : Nat} {e : TypeId} {she : List CK} (hz : she.length ≠ 0) (hse : shapeOf P d e = some she) (hc : P.cellsOf e = she.length) (hi : (P.info? e).isSome = true)
    (ih : ∀ (xs ys : List Value), fitsL she xs = true → fitsL she ys = true → ∀ w, (Op.equalIn (D + d) e (valOf P e xs) (valOf P e ys)).run P w = .ok (eqCs xs ys) w) (w : World) (xs ys : List Value) :
    ∀ (m i : Nat), fitsL (List.replicate m she).flatten (xs.drop (i * she.length)) = true → fitsL (List.replicate m she).flatten (ys.drop (i * she.length)) = true →
      (Op.eqItems (D + d) e (P.cellsOf e) xs.toArray ys.toArray (List.range' i m)).run P w = .ok (eqCs (xs.drop (i * she.length)) (ys.drop (i * she.length))) w
  | 0, i, hx, hy => by
    have h1 := fitsL_len hx
    have h2 := fitsL_len hy
    simp only [List.replicate_zero, List.flatten_nil, List.length_nil] at h1 h2
    rw [List.length_eq_zero_iff.1 h1, List.length_eq_zero_iff.1 h2]
    rfl
  | m + 1, i, hx, hy => by
    rw [List.replicate_succ, List.flatten_cons] at hx hy
    have l1 := fitsL_len hx
    have l2 := fitsL_len hy
    simp only [List.length_append, List.length_drop] at l1 l2
    obtain ⟨hx1, hx2⟩ := fitsL_append hx
    obtain ⟨hy1, hy2⟩ := fitsL_append hy
    rw [List.drop_drop] at hx2 hy2
    have e1 : i * she.length + she.length = (i + 1) * she.length := by rw [Nat.add_mul]; omega
    rw [e1] at hx2 hy2
    have ih2 := run_items hz hse hc hi ih w xs ys m (i + 1) hx2 hy2
    rw [List.range'_succ]
    simp only [Op.eqItems, Sem.run_bind]
    rw [hc]
    · rw [run_part_val hse hi hc (by omega)]
      simp only [Result.andThen_ok]
      rw [run_part_val hse hi hc (by omega)]
      simp only [Result.andThen_ok, ih _ _ hx1 hy1]
      have hsplit : eqCs (xs.drop (i * she.length)) (ys.drop (i * she.length)) = (eqCs ((xs.drop (i * she.length)).take she.length) ((ys.drop (i * she.length)).take she.length) && eqCs (xs.drop ((i + 1) * she.length)) (ys.drop ((i + 1) * she.length))) := by
        rw [← e1, ← List.drop_drop, ← List.drop_drop, ← eqCs_append _ _ _ _ (by simp; omega), List.take_append_drop, List.take_append_drop]
      rw [hsplit]
      cases hq : eqCs ((xs.drop (i * she.length)).take she.length) ((ys.drop (i * she.length)).take she.length)
      · rfl
      · simp only [Bool.not_true, Bool.false_eq_true, if_false, Bool.true_and]
        rw [← hc] at ih2 ⊢
        exact ih2
theorem run_fields {d D : Nat} (w : World) (xs ys : List Value)
    (ih : ∀ (e : TypeId) (sh : List CK) (xs ys : List Value), shapeOf P d e = some sh → fitsL sh xs = true → fitsL sh ys = true → ∀ w, (Op.equalIn (D + d) e (valOf P e xs) (valOf P e ys)).run P w = .ok (eqCs xs ys) w) :
    ∀ (fs : List Field) (off : Nat) (sh : List CK), shapeF P (shapeOf P d) off fs = some sh → fitsL sh (xs.drop off) = true → fitsL sh (ys.drop off) = true →
      (Op.eqFields (D + d) xs.toArray ys.toArray fs).run P w = .ok (eqCs (xs.drop off) (ys.drop off)) w
  | [], off, sh, h, hx, hy => by
    simp [shapeF] at h; subst h
    have h1 := fitsL_len hx
    have h2 := fitsL_len hy
    rw [List.length_eq_zero_iff.1 h1, List.length_eq_zero_iff.1 h2]
    rfl
  | f :: fs, off, sh, h, hx, hy => by
    unfold shapeF at h
    split at h
    · rename_i s1 hs1
      split at h
      · rename_i hc
        obtain ⟨ho, hn, hcl, hi, hz⟩ : f.offset = off ∧ f.name ≠ "_" ∧ P.cellsOf f.type = s1.length ∧ (P.info? f.type).isSome = true ∧ s1.length ≠ 0 := by simpa [shapeFok] using hc
        cases hr : shapeF P (shapeOf P d) (off + s1.length) fs with
        | none => simp [hr] at h
        | some s2 =>
          simp [hr] at h
          subst h
          have l1 := fitsL_len hx
          have l2 := fitsL_len hy
          simp only [List.length_append, List.length_drop] at l1 l2
          obtain ⟨hx1, hx2⟩ := fitsL_append hx
          obtain ⟨hy1, hy2⟩ := fitsL_append hy
          rw [List.drop_drop] at hx2 hy2
          have ih2 := run_fields w xs ys ih fs (off + s1.length) s2 hr hx2 hy2
          simp only [Op.eqFields, hn, ne_eq, not_false_eq_true, if_true, Sem.run_bind]
          · rw [ho, run_part_val hs1 hi hcl (by omega)]
            simp only [Result.andThen_ok]
            rw [run_part_val hs1 hi hcl (by omega)]
            simp only [Result.andThen_ok, ih f.type s1 _ _ hs1 hx1 hy1]
            have hsplit : eqCs (xs.drop off) (ys.drop off) = (eqCs ((xs.drop off).take s1.length) ((ys.drop off).take s1.length) && eqCs (xs.drop (off + s1.length)) (ys.drop (off + s1.length))) := by
              rw [← List.drop_drop, ← List.drop_drop, ← eqCs_append _ _ _ _ (by simp; omega), List.take_append_drop, List.take_append_drop]
            rw [hsplit]
            cases hq : eqCs ((xs.drop off).take s1.length) ((ys.drop off).take s1.length)
            · rfl
            · simp only [Bool.not_true, Bool.false_eq_true, if_false, Bool.true_and]
              exact ih2
      · cases h
    · cases h
theorem eq_shape : ∀ (d : Nat) (t : TypeId) (sh : List CK) (xs ys : List Value), shapeOf P d t = some sh → fitsL sh xs = true → fitsL sh ys = true → ∀ D w, (Op.equalIn (D + d) t (valOf P t xs) (valOf P t ys)).run P w = .ok (eqCs xs ys) w
  | 0, t, sh, xs, ys, h, hx, hy => by simp [shapeOf] at h
  | d + 1, t, sh, xs, ys, h, hx, hy => by
    intro D w
    rw [← Nat.add_assoc]
    unfold shapeOf at h
    split at h
    · rename_i k hu
      cases h
      obtain ⟨x, rfl, hx'⟩ := fits_one hx
      obtain ⟨y, rfl, hy'⟩ := fits_one hy
      obtain ⟨x, rfl⟩ := fits_i hx'
      obtain ⟨y, rfl⟩ := fits_i hy'
      simp only [valOf, hu, List.headD_cons, eqCs, eqC, Bool.and_true]
      exact run_equalIn_int w (D + d) t _ _ _ _ hu
    · rename_i hu
      cases h
      obtain ⟨x, rfl, hx'⟩ := fits_one hx
      obtain ⟨y, rfl, hy'⟩ := fits_one hy
      obtain ⟨x, rfl⟩ := fits_b hx'
      obtain ⟨y, rfl⟩ := fits_b hy'
      simp only [valOf, hu, List.headD_cons, eqCs, eqC, Bool.and_true]
      exact run_equalIn_bool' w (D + d) t _ _ hu
    · rename_i hu
      cases h
      obtain ⟨x, rfl, hx'⟩ := fits_one hx
      obtain ⟨y, rfl, hy'⟩ := fits_one hy
      obtain ⟨x, rfl⟩ := fits_s hx'
      obtain ⟨y, rfl⟩ := fits_s hy'
      simp only [valOf, hu, List.headD_cons, eqCs, eqC, Bool.and_true]
      rw [run_equalIn_string w (D + d) t _ _ hu, beq_toListBytes]
    · rename_i n e hu
      split at h
      · rename_i she hse
        split at h
        · rename_i hc
          cases h
          have hc : P.cellsOf e = she.length ∧ (P.info? e).isSome = true ∧ she.length ≠ 0 := by simpa [shapeAok] using hc
          cases hie : P.info? e with
          | none => simp [hie] at hc
          | some i =>
          have hv : ∀ zs, valOf P t zs = .agg zs.toArray := fun zs => by unfold valOf; rw [hu]
          rw [hv, hv, run_equalIn_array w (D + d) xs.toArray ys.toArray hu hie, List.range_eq_range']
          have := run_items hc.2.2 hse hc.1 hc.2.1 (fun xs ys h1 h2 w => eq_shape d e she xs ys hse h1 h2 D w) w xs ys n 0 (by simpa using hx) (by simpa using hy)
          simpa using this
        · cases h
      · cases h
    · rename_i fs hu
      split at h
      · rename_i hs
        have hv : ∀ zs, valOf P t zs = .agg zs.toArray := fun zs => by unfold valOf; rw [hu]
        have hfs : P.fieldsOf t = fs := by simp [Program.fieldsOf, hu]
        rw [hv, hv, run_equalIn_struct w (D + d) t xs.toArray ys.toArray (by rw [hfs]; exact hu) hs, hfs]
        have := run_fields w xs ys (fun e sh xs ys h0 h1 h2 w => eq_shape d e sh xs ys h0 h1 h2 D w) fs.toList 0 sh h (by simpa using hx) (by simpa using hy)
        simpa using this
      · cases h
    · cases h
theorem rowRep_sc_inv {X : Ctx} : ∀ {zs us : List Value}, RowRep X (zs.map V.sc) us → us = zs
  | [], us, h => by simpa [RowRep] using h
  | z :: zs, us, h => by
    simp only [List.map_cons, RowRep] at h
    obtain ⟨u, us', rfl, h2, h3⟩ := h
    simp only [VRep] at h2
    rw [h2, rowRep_sc_inv h3]
/-- Structs and arrays of numbers, truths and texts compared. -/
theorem step_eq_agg {op : BinOp} {ty ty2 : TypeId} {x y : Operand} {xs ys : List Value} {b : Bool} {d : Nat} {sh : List CK} (ho : o.op = .binOp op ty x y ty2) (hx : ev t x = .agg (xs.map V.sc)) (hy : ev t y = .agg (ys.map V.sc))
    (hsh : shapeOf P d ty = some sh) (hd : d ≤ 10000) (hag : ∃ k, P.underlying ty = some k ∧ aggD k = true) (hg : P.eqGuardType P.depth ty = false) (fx : fitsL sh xs = true) (fy : fitsL sh ys = true) (hb : (op = .eql ∧ b = eqCs xs ys) ∨ (op = .neq ∧ b = !eqCs xs ys)) : StepOK P o t [] [] (.sc (.bool b)) := by
  refine step_value fun n X ρ hR hop hpre => ?_
  have g1 := hop x (by simp [ho, Op.operands])
  have g2 := hop y (by simp [ho, Op.operands])
  rw [hx] at g1; rw [hy] at g2
  simp only [VRep] at g1 g2
  obtain ⟨us, h1, h2, _⟩ := g1
  obtain ⟨us2, h3, h4, _⟩ := g2
  rw [rowRep_sc_inv h2] at h1
  rw [rowRep_sc_inv h4] at h3
  obtain ⟨k, hk, hka⟩ := hag
  have hv : ∀ zs, valOf P ty zs = .agg zs.toArray := fun zs => by unfold valOf; rw [hk]; cases k <;> first | rfl | (simp [aggD] at hka; done)
  have heq := eq_shape d ty sh xs ys hsh fx fy (10000 - d) X.w
  rw [show 10000 - d + d = 10000 by omega, hv, hv] at heq
  have hprog : ∀ w, (program).run P w = .ok P w := fun w => rfl
  refine ⟨.bool b, exec_run (exec_binOp ho) ?_, by simp only [VRep]⟩
  rw [h1, h3]
  rcases hb with ⟨rfl, rfl⟩ | ⟨rfl, rfl⟩
  · have e1 : (eqGuard .eql ty x y (.agg xs.toArray) (.agg ys.toArray)).run P X.w = .ok () X.w := by
      simp only [eqGuard, Bool.not_true, Bool.false_eq_true, if_false, Sem.run_bind, hprog, Result.andThen_ok, hg, Bool.not_false, if_true]; rfl
    have e2 : (binOp .eql ty (.agg xs.toArray) (.agg ys.toArray)) = (do pure (.bool (← Op.equal ty (.agg xs.toArray) (.agg ys.toArray)))) := rfl
    rw [Sem.run_bind, e1, e2]
    simp only [Result.andThen_ok, Sem.run_bind, Op.equal, Op.maxDepth, heq]
    rfl
  · have e1 : (eqGuard .neq ty x y (.agg xs.toArray) (.agg ys.toArray)).run P X.w = .ok () X.w := by
      simp only [eqGuard, Bool.not_true, Bool.false_eq_true, if_false, Sem.run_bind, hprog, Result.andThen_ok, hg, Bool.not_false, if_true]; rfl
    have e2 : (binOp .neq ty (.agg xs.toArray) (.agg ys.toArray)) = (do pure (.bool (!(← Op.equal ty (.agg xs.toArray) (.agg ys.toArray))))) := rfl
    rw [Sem.run_bind, e1, e2]
    simp only [Result.andThen_ok, Sem.run_bind, Op.equal, Op.maxDepth, heq]
    rfl
/-! ### min, max -/
/-! ### Functions held as values -/
theorem step_makeFunc {f : FuncId} {xs : Array Operand} {vs : List V} (ho : o.op = .makeFunc (.func f) #[] xs) (hvs : xs.toList.map (ev t) = vs) : StepOK P o t [] [] (.fn f vs) := by
  refine step_value fun n X ρ hR hop hpre => ?_
  refine ⟨.func (.func f) #[] (xs.map ρ), exec_run (exec_makeFunc ho) (by simp [Instr.makeFunc]), ?_⟩
  simp only [VRep]
  refine ⟨(xs.map ρ).toList, by rw [Array.toArray_toList], ?_⟩
  rw [Array.toList_map]
  exact rowRep_map _ _ hvs (fun x hx => hop x (by simp [ho, Op.operands]; simpa using hx))
/-- A call of a function held as a value: what it captured stands behind its arguments. -/
theorem step_call_fn {f : FuncId} {g : Operand} {fn : Func} {xs : Array Operand} {tys : Array TypeId} {vs cap : List V} {r : V} (ho : o.op = .call { callee := .value g, args := xs, argTypes := tys }) (hg : ev t g = .fn f cap ∨ (ev t g = .sc (.func (.func f) #[] #[]) ∧ cap = [])) (hvs : xs.toList.map (ev t) ++ cap = vs)
    (hf : P.funcs[f]? = some fn) (hname : (fn.name == "runtime.NumGoroutine") = false) (hb : fn.body.isSome = true) (h : Does P f vs pre up r) : StepOK P o t pre up r := by
  intro n X a next Q hR hop hpre hup hk
  have hgv := hop g (by simp [ho, Op.operands, Call.operands])
  have hc : ∃ us, a.eval g = .func (.func f) #[] (List.toArray us) ∧ RowRep X cap us := by
    rcases hg with hg | ⟨hg, rfl⟩
    · rw [hg] at hgv; simp only [VRep] at hgv; exact hgv
    · rw [hg] at hgv; simp only [VRep] at hgv; exact ⟨[], hgv, by simp [RowRep]⟩
  obtain ⟨us, hgu, hus⟩ := hc
  have hargs : RowRep X vs ((xs.map a.eval ++ us.toArray).toList) := by
    rw [Array.toList_append, Array.toList_map, ← hvs]
    exact (rowRep_map _ _ rfl (fun x hx => hop x (by simp [ho, Op.operands, Call.operands]; exact .inr (by simpa using hx)))).append hus
  have hrun : (execOp a.eval o).run P X.w = .ok (.enter f (xs.map a.eval ++ us.toArray)) X.w := by
    rw [exec_call ho]
    have e1 : resolve a.eval { callee := .value g, args := xs, argTypes := tys } o.type = Deferred.ofValue (a.eval g) (xs.map a.eval) := rfl
    rw [e1, hgu]
    have e2 : (Deferred.ofValue (.func (.func f) #[] us.toArray) (xs.map a.eval) : Sem Deferred) = pure { target := .fn (.func f) us.toArray, args := #[] ++ xs.map a.eval } := rfl
    rw [e2]
    simp only [Sem.run_bind, Sem.run_pure, Result.andThen_ok, invoke]
    rw [callFunc_run hf hname hb]
    simp
  unfold Oper.wp
  rw [hrun]
  rw [Oper.upon_enter]
  refine (h n X _ hR hargs hpre hup).mono ?_
  rintro e w' ⟨X', u, rfl, h2, h3, h4, h5, rfl⟩
  exact hk X' u h3 h4 h5 h2
end
end Go.Vm

