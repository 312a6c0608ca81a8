/- A logic of values over the model. Part G: slices cut and copied, texts, what is compared, functions held as values. -/
import Derived.Test.YtggeejghchnpaaaKrVmF
import Derived.ChangeKeysEq
import Derived.DeepKeys
import Derived.Laws.StructEq
set_option linter.unusedVariables false
set_option linter.unusedSimpArgs false
namespace Go.Vm
section
variable {P : Program} {o : Oper} {t : Nat → V} {pre up : List (Nat × Box)} {val : V}
/-! ### Cut -/
theorem RowsAt.dropped {X : Ctx} {e : Nat} : ∀ {xs : List (List V)} {b q : Nat} (i : Nat), RowsAt X e xs b q → RowsAt X e (xs.drop i) b (q + i * e)
  | [], b, q, i, h => by simp [RowsAt]
  | r :: rs, b, q, i, h => by
    cases i with
    | zero => simpa using h
    | succ i =>
      simp only [RowsAt] at h
      have := RowsAt.dropped i h.2.2
      rw [show q + (i + 1) * e = q + e + i * e by rw [Nat.add_mul]; omega]
      simpa using this
theorem run_bound {x : Value} {k : IntKind} {i : Int} {y : Nat} {code : BoundsCode} {w : World} (hx : x = .int k i) (h0 : 0 ≤ i) (h1 : i ≤ y) : (Instr.sliceBound x y code).run P w = .ok i.toNat w := by
  subst hx
  simp only [Instr.sliceBound, asIntOf, Sem.run_bind, Sem.run_pure, Result.andThen_ok, h0, h1, and_self, if_true]
/-- Where a cut begins and ends, off its operands. -/
def bndLo : Option V → Option Nat
  | none => some 0
  | some (.sc (.int _ i)) => if 0 ≤ i then some i.toNat else none
  | _ => none
def bndHi (len : Nat) : Option V → Option Nat
  | none => some len
  | some (.sc (.int _ i)) => if 0 ≤ i then some i.toNat else none
  | _ => none
theorem run_bounds {X : Ctx} {ρ : Operand → Value} {isS : Bool} {len cap l h m : Nat} {lo hi mx : Option Operand} {w : World} (hops : ∀ x, (lo = some x ∨ hi = some x ∨ mx = some x) → VRep X (ev t x) (ρ x))
    (hlo : bndLo (lo.map (ev t)) = some l) (hhi : bndHi len (hi.map (ev t)) = some h) (hmx : bndHi cap (mx.map (ev t)) = some m) (hmh : mx.isSome = true → hi.isSome = true) (hlh : l ≤ h) (hh : h ≤ m) (hm : m ≤ cap) :
    (Instr.sliceBounds isS len cap (lo.map ρ) (hi.map ρ) (mx.map ρ)).run P w = .ok (l, h, m) w := by
  have opn : ∀ (y : Option Operand) (len q : Nat), (∀ x, y = some x → VRep X (ev t x) (ρ x)) → bndHi len (y.map (ev t)) = some q → (y = none ∧ q = len) ∨ ∃ x k i, y = some x ∧ ρ x = .int k i ∧ 0 ≤ i ∧ q = i.toNat := by
    intro y len q hy hq
    cases y with
    | none => simp [bndHi] at hq; exact .inl ⟨rfl, hq.symm⟩
    | some x =>
      have hv := hy x rfl
      simp only [Option.map_some, bndHi] at hq
      split at hq
      · cases (by assumption : some _ = none)
      · rename_i k i hx
        simp at hx
        split at hq
        · rename_i h0
          rw [hx] at hv
          simp only [VRep] at hv
          exact .inr ⟨x, k, i, rfl, hv, h0, by simpa using hq.symm⟩
        · cases hq
      · cases hq
  have hlo' : bndHi 0 (lo.map (ev t)) = some l := by
    rw [← hlo]
    cases lo with
    | none => rfl
    | some x => simp only [Option.map_some, bndLo, bndHi]
  rcases opn mx cap m (fun x hx => hops x (.inr (.inr hx))) hmx with ⟨rfl, rfl⟩ | ⟨xm, km, im, rfl, hxm, him, rfl⟩
  · rcases opn hi len h (fun x hx => hops x (.inr (.inl hx))) hhi with ⟨rfl, rfl⟩ | ⟨xh, kh, ih, rfl, hxh, hih, rfl⟩
    · rcases opn lo 0 l (fun x hx => hops x (.inl hx)) hlo' with ⟨rfl, rfl⟩ | ⟨xl, kl, il, rfl, hxl, hil, rfl⟩
      · rfl
      · simp only [Instr.sliceBounds, Option.map_none, Option.map_some, Sem.run_bind, Sem.run_pure, Result.andThen_ok, run_bound hxl hil (show il ≤ (h : Int) by omega)]
    · rcases opn lo 0 l (fun x hx => hops x (.inl hx)) hlo' with ⟨rfl, rfl⟩ | ⟨xl, kl, il, rfl, hxl, hil, rfl⟩
      · simp only [Instr.sliceBounds, Option.map_none, Option.map_some, Sem.run_bind, Sem.run_pure, Result.andThen_ok, run_bound hxh hih (show ih ≤ (m : Int) by omega)]
      · simp only [Instr.sliceBounds, Option.map_none, Option.map_some, Sem.run_bind, Sem.run_pure, Result.andThen_ok, run_bound hxh hih (show ih ≤ (m : Int) by omega), run_bound hxl hil (show il ≤ (ih.toNat : Int) by omega)]
  · rcases opn hi len h (fun x hx => hops x (.inr (.inl hx))) hhi with ⟨rfl, rfl⟩ | ⟨xh, kh, ih, rfl, hxh, hih, rfl⟩
    · simp at hmh
    · rcases opn lo 0 l (fun x hx => hops x (.inl hx)) hlo' with ⟨rfl, rfl⟩ | ⟨xl, kl, il, rfl, hxl, hil, rfl⟩
      · simp only [Instr.sliceBounds, Option.map_none, Option.map_some, Sem.run_bind, Sem.run_pure, Result.andThen_ok, run_bound hxm him (show im ≤ (cap : Int) by omega), run_bound hxh hih (show ih ≤ (im.toNat : Int) by omega)]
      · simp only [Instr.sliceBounds, Option.map_none, Option.map_some, Sem.run_bind, Sem.run_pure, Result.andThen_ok, run_bound hxm him (show im ≤ (cap : Int) by omega), run_bound hxh hih (show ih ≤ (im.toNat : Int) by omega), run_bound hxl hil (show il ≤ (ih.toNat : Int) by omega)]
theorem slice_ops {ty : TypeId} {x : Operand} {lo hi mx : Option Operand} {X : Ctx} {ρ : Operand → Value} (ho : o.op = .slice ty x lo hi mx) (hop : ∀ x ∈ o.op.operands, VRep X (ev t x) (ρ x)) : VRep X (ev t x) (ρ x) ∧ ∀ y, (lo = some y ∨ hi = some y ∨ mx = some y) → VRep X (ev t y) (ρ y) := by
  refine ⟨hop x (by simp [ho, Op.operands]), fun y hy => hop y ?_⟩
  rcases hy with rfl | rfl | rfl <;> simp [ho, Op.operands]
/-! ### copy -/
theorem flat_take {e : Nat} : ∀ (ys : List (List V)) (m : Nat), (∀ r ∈ ys, r.length = e) → (ys.take m).flatten = ys.flatten.take (m * e)
  | [], m, h => by simp
  | r :: rs, m, h => by
    cases m with
    | zero => simp
    | succ m =>
      have hr := h r (List.mem_cons_self ..)
      rw [List.take_succ_cons, List.flatten_cons, List.flatten_cons, flat_take rs m (fun r' hr' => h r' (List.mem_cons_of_mem _ hr'))]
      rw [List.take_append, hr, show (m + 1) * e - e = m * e by rw [Nat.add_mul]; omega, List.take_of_length_le (l := r) (by rw [hr, Nat.add_mul]; omega)]
/-! ### What is compared -/
end
section
variable {P : Program} {o : Oper} {t : Nat → V} {pre up : List (Nat × Box)} {val : V}
/-- A pointer compared with nil. -/
theorem step_eq_nil {op : BinOp} {ty ty2 el : TypeId} {x y : Operand} {v : V} {b : Bool} (ho : o.op = .binOp op ty x y ty2) (hx : ev t x = v) (hy : ev t y = .sc (.pointer none)) (hu : P.underlying ty = some (.pointer el))
    (hb : ∃ q, (((∃ k j, v = .ref k j) ∨ ∃ row, v = .ro row) ∧ q = false ∨ v = .sc (.pointer none) ∧ q = true) ∧ ((op = .eql ∧ b = q) ∨ (op = .neq ∧ b = !q))) : StepOK P o t [] [] (.sc (.bool b)) := by
  refine step_value fun n X ρ hR hop hpre => ?_
  have g1 := hop x (by simp [ho, Op.operands])
  have g2 := hop y (by simp [ho, Op.operands])
  rw [hx] at g1; rw [hy] at g2
  simp only [VRep] at g2
  obtain ⟨q, hq, hb⟩ := hb
  have hp : ∃ ad, ρ x = .pointer ad ∧ q = ad.isNone := by
    rcases hq with ⟨⟨k, j, rfl⟩ | ⟨row, rfl⟩, rfl⟩ | ⟨rfl, rfl⟩
    · simp only [VRep] at g1; exact ⟨_, g1.2, rfl⟩
    · simp only [VRep] at g1; obtain ⟨b, j, h2, _⟩ := g1; exact ⟨_, h2, rfl⟩
    · simp only [VRep] at g1; exact ⟨_, g1, rfl⟩
  obtain ⟨ad, h1, rfl⟩ := hp
  have heq : ∀ d, (Op.equalIn (d + 1) ty (.pointer ad) (.pointer none)).run P X.w = .ok ad.isNone X.w := by
    intro d
    simp only [Op.equalIn, Sem.run_bind, run_under hu, Result.andThen_ok]
    cases ad <;> rfl
  have heq := heq 9999
  refine ⟨.bool b, exec_run (exec_binOp ho) ?_, by simp only [VRep]⟩
  rw [h1, g2]
  rcases hb with ⟨rfl, rfl⟩ | ⟨rfl, rfl⟩
  · have e1 : (eqGuard .eql ty x y (.pointer ad) (.pointer none)) = pure () := rfl
    have e2 : (binOp .eql ty (.pointer ad) (.pointer none)) = (do pure (.bool (← Op.equal ty (.pointer ad) (.pointer none)))) := rfl
    rw [Sem.run_bind, e1, e2]
    simp only [Result.andThen_ok, Sem.run_bind, Sem.run_pure, Op.equal, Op.maxDepth]
    erw [heq]
    rfl
  · have e1 : (eqGuard .neq ty x y (.pointer ad) (.pointer none)) = pure () := rfl
    have e2 : (binOp .neq ty (.pointer ad) (.pointer none)) = (do pure (.bool (!(← Op.equal ty (.pointer ad) (.pointer none))))) := rfl
    rw [Sem.run_bind, e1, e2]
    simp only [Result.andThen_ok, Sem.run_bind, Sem.run_pure, Op.equal, Op.maxDepth]
    erw [heq]
    rfl
/-! ### min, max -/
theorem step_max {x y : Operand} {tys : Array TypeId} {k : IntKind} {a b : Int} (ho : o.op = .call { callee := .builtin .max, args := #[x, y], argTypes := tys }) (hx : ev t x = .sc (.int k a)) (hy : ev t y = .sc (.int k b)) : StepOK P o t [] [] (.sc (.int k (if b > a then b else a))) := by
  refine step_value fun n X ρ hR hop hpre => ?_
  have g1 := hop x (by simp [ho, Op.operands, Call.operands])
  have g2 := hop y (by simp [ho, Op.operands, Call.operands])
  rw [hx] at g1; rw [hy] at g2
  simp only [VRep] at g1 g2
  refine ⟨.int k (if b > a then b else a), ?_, by simp only [VRep]⟩
  rw [exec_builtin ho]
  have e1 : (#[x, y].map ρ : Array Value) = #[.int k a, .int k b] := by simp [g1, g2]
  rw [e1]
  rfl
theorem step_min {x y : Operand} {tys : Array TypeId} {k : IntKind} {a b : Int} (ho : o.op = .call { callee := .builtin .min, args := #[x, y], argTypes := tys }) (hx : ev t x = .sc (.int k a)) (hy : ev t y = .sc (.int k b)) : StepOK P o t [] [] (.sc (.int k (if b < a then b else a))) := by
  refine step_value fun n X ρ hR hop hpre => ?_
  have g1 := hop x (by simp [ho, Op.operands, Call.operands])
  have g2 := hop y (by simp [ho, Op.operands, Call.operands])
  rw [hx] at g1; rw [hy] at g2
  simp only [VRep] at g1 g2
  refine ⟨.int k (if b < a then b else a), ?_, by simp only [VRep]⟩
  rw [exec_builtin ho]
  have e1 : (#[x, y].map ρ : Array Value) = #[.int k a, .int k b] := by simp [g1, g2]
  rw [e1]
  rfl
/-! ### Functions held as values -/
/-- A call of a function held as a value: what it captured stands behind its arguments. -/
theorem step_call_fn {f : FuncId} {g : Operand} {fn : Func} {xs : Array Operand} {tys : Array TypeId} {vs cap : List V} {r : V} (ho : o.op = .call { callee := .value g, args := xs, argTypes := tys }) (hg : ev t g = .fn f cap ∨ (ev t g = .sc (.func (.func f) #[] #[]) ∧ cap = [])) (hvs : xs.toList.map (ev t) ++ cap = vs)
    (hf : P.funcs[f]? = some fn) (hname : (fn.name == "runtime.NumGoroutine") = false) (hb : fn.body.isSome = true) (h : Does P f vs pre up r) : StepOK P o t pre up r := by
  intro n X a next Q hR hop hpre hup hk
  have hgv := hop g (by simp [ho, Op.operands, Call.operands])
  have hc : ∃ us, a.eval g = .func (.func f) #[] (List.toArray us) ∧ RowRep X cap us := by
    rcases hg with hg | ⟨hg, rfl⟩
    · rw [hg] at hgv; simp only [VRep] at hgv; exact hgv
    · rw [hg] at hgv; simp only [VRep] at hgv; exact ⟨[], hgv, by simp [RowRep]⟩
  obtain ⟨us, hgu, hus⟩ := hc
  have hargs : RowRep X vs ((xs.map a.eval ++ us.toArray).toList) := by
    rw [Array.toList_append, Array.toList_map, ← hvs]
    exact (rowRep_map _ _ rfl (fun x hx => hop x (by simp [ho, Op.operands, Call.operands]; exact .inr (by simpa using hx)))).append hus
  have hrun : (execOp a.eval o).run P X.w = .ok (.enter f (xs.map a.eval ++ us.toArray)) X.w := by
    rw [exec_call ho]
    have e1 : resolve a.eval { callee := .value g, args := xs, argTypes := tys } o.type = Deferred.ofValue (a.eval g) (xs.map a.eval) := rfl
    rw [e1, hgu]
    have e2 : (Deferred.ofValue (.func (.func f) #[] us.toArray) (xs.map a.eval) : Sem Deferred) = pure { target := .fn (.func f) us.toArray, args := #[] ++ xs.map a.eval } := rfl
    rw [e2]
    simp only [Sem.run_bind, Sem.run_pure, Result.andThen_ok, invoke]
    rw [callFunc_run hf hname hb]
    simp
  unfold Oper.wp
  rw [hrun]
  rw [Oper.upon_enter]
  refine (h n X _ hR hargs hpre hup).mono ?_
  rintro e w' ⟨X', u, rfl, h2, h3, h4, h5, rfl⟩
  exact hk X' u h3 h4 h5 h2
end
end Go.Vm
