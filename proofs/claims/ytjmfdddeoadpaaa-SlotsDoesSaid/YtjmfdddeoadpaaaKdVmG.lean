/- A logic of values over the model. Part G: slices cut and copied, texts, what is compared, functions held as values. -/
import Derived.Test.YtjmfdddeoadpaaaKdVmF
import Derived.ChangeKeysEq
import Derived.DeepKeys
import Derived.Laws.StructEq
set_option linter.unusedVariables false
set_option linter.unusedSimpArgs false
namespace Go.Vm
section
variable {P : Program} {o : Oper} {t : Nat → V} {pre up : List (Nat × Box)} {val : V}
/-! ### Cut -/
theorem RowsAt.dropped {X : Ctx} {e : Nat} : ∀ {xs : List (List V)} {b q : Nat} (i : Nat), RowsAt X e xs b q → RowsAt X e (xs.drop i) b (q + i * e)
  | [], b, q, i, h => by simp [RowsAt]
  | r :: rs, b, q, i, h => by
    cases i with
    | zero => simpa using h
    | succ i =>
      simp only [RowsAt] at h
      have := RowsAt.dropped i h.2.2
      rw [show q + (i + 1) * e = q + e + i * e by rw [Nat.add_mul]; omega]
      simpa using this
theorem RowsAt.taken {X : Ctx} {e : Nat} : ∀ {xs : List (List V)} {b q : Nat} (i : Nat), RowsAt X e xs b q → RowsAt X e (xs.take i) b q
  | [], b, q, i, h => by simp [RowsAt]
  | r :: rs, b, q, i, h => by
    cases i with
    | zero => simp [RowsAt]
    | succ i =>
      simp only [RowsAt] at h
      simp only [List.take_succ_cons, RowsAt]
      exact ⟨h.1, h.2.1, RowsAt.taken i h.2.2⟩
theorem run_bound {x : Value} {k : IntKind} {i : Int} {y : Nat} {code : BoundsCode} {w : World} (hx : x = .int k i) (h0 : 0 ≤ i) (h1 : i ≤ y) : (Instr.sliceBound x y code).run P w = .ok i.toNat w := by
  subst hx
  simp only [Instr.sliceBound, asIntOf, Sem.run_bind, Sem.run_pure, Result.andThen_ok, h0, h1, and_self, if_true]
/-- Where a cut begins and ends, off its operands. -/
def bndLo : Option V → Option Nat
  | none => some 0
  | some (.sc (.int _ i)) => if 0 ≤ i then some i.toNat else none
  | _ => none
def bndHi (len : Nat) : Option V → Option Nat
  | none => some len
  | some (.sc (.int _ i)) => if 0 ≤ i then some i.toNat else none
  | _ => none
theorem run_bounds {X : Ctx} {ρ : Operand → Value} {isS : Bool} {len cap l h m : Nat} {lo hi mx : Option Operand} {w : World} (hops : ∀ x, (lo = some x ∨ hi = some x ∨ mx = some x) → VRep X (ev t x) (ρ x))
    (hlo : bndLo (lo.map (ev t)) = some l) (hhi : bndHi len (hi.map (ev t)) = some h) (hmx : bndHi cap (mx.map (ev t)) = some m) (hmh : mx.isSome = true → hi.isSome = true) (hlh : l ≤ h) (hh : h ≤ m) (hm : m ≤ cap) :
    (Instr.sliceBounds isS len cap (lo.map ρ) (hi.map ρ) (mx.map ρ)).run P w = .ok (l, h, m) w := by
  have opn : ∀ (y : Option Operand) (len q : Nat), (∀ x, y = some x → VRep X (ev t x) (ρ x)) → bndHi len (y.map (ev t)) = some q → (y = none ∧ q = len) ∨ ∃ x k i, y = some x ∧ ρ x = .int k i ∧ 0 ≤ i ∧ q = i.toNat := by
    intro y len q hy hq
    cases y with
    | none => simp [bndHi] at hq; exact .inl ⟨rfl, hq.symm⟩
    | some x =>
      have hv := hy x rfl
      simp only [Option.map_some, bndHi] at hq
      split at hq
      · cases (by assumption : some _ = none)
      · rename_i k i hx
        simp at hx
        split at hq
        · rename_i h0
          rw [hx] at hv
          simp only [VRep] at hv
          exact .inr ⟨x, k, i, rfl, hv, h0, by simpa using hq.symm⟩
        · cases hq
      · cases hq
  have hlo' : bndHi 0 (lo.map (ev t)) = some l := by
    rw [← hlo]
    cases lo with
    | none => rfl
    | some x => simp only [Option.map_some, bndLo, bndHi]
  rcases opn mx cap m (fun x hx => hops x (.inr (.inr hx))) hmx with ⟨rfl, rfl⟩ | ⟨xm, km, im, rfl, hxm, him, rfl⟩
  · rcases opn hi len h (fun x hx => hops x (.inr (.inl hx))) hhi with ⟨rfl, rfl⟩ | ⟨xh, kh, ih, rfl, hxh, hih, rfl⟩
    · rcases opn lo 0 l (fun x hx => hops x (.inl hx)) hlo' with ⟨rfl, rfl⟩ | ⟨xl, kl, il, rfl, hxl, hil, rfl⟩
      · rfl
      · simp only [Instr.sliceBounds, Option.map_none, Option.map_some, Sem.run_bind, Sem.run_pure, Result.andThen_ok, run_bound hxl hil (show il ≤ (h : Int) by omega)]
    · rcases opn lo 0 l (fun x hx => hops x (.inl hx)) hlo' with ⟨rfl, rfl⟩ | ⟨xl, kl, il, rfl, hxl, hil, rfl⟩
      · simp only [Instr.sliceBounds, Option.map_none, Option.map_some, Sem.run_bind, Sem.run_pure, Result.andThen_ok, run_bound hxh hih (show ih ≤ (m : Int) by omega)]
      · simp only [Instr.sliceBounds, Option.map_none, Option.map_some, Sem.run_bind, Sem.run_pure, Result.andThen_ok, run_bound hxh hih (show ih ≤ (m : Int) by omega), run_bound hxl hil (show il ≤ (ih.toNat : Int) by omega)]
  · rcases opn hi len h (fun x hx => hops x (.inr (.inl hx))) hhi with ⟨rfl, rfl⟩ | ⟨xh, kh, ih, rfl, hxh, hih, rfl⟩
    · simp at hmh
    · rcases opn lo 0 l (fun x hx => hops x (.inl hx)) hlo' with ⟨rfl, rfl⟩ | ⟨xl, kl, il, rfl, hxl, hil, rfl⟩
      · simp only [Instr.sliceBounds, Option.map_none, Option.map_some, Sem.run_bind, Sem.run_pure, Result.andThen_ok, run_bound hxm him (show im ≤ (cap : Int) by omega), run_bound hxh hih (show ih ≤ (im.toNat : Int) by omega)]
      · simp only [Instr.sliceBounds, Option.map_none, Option.map_some, Sem.run_bind, Sem.run_pure, Result.andThen_ok, run_bound hxm him (show im ≤ (cap : Int) by omega), run_bound hxh hih (show ih ≤ (im.toNat : Int) by omega), run_bound hxl hil (show il ≤ (ih.toNat : Int) by omega)]
theorem slice_ops {ty : TypeId} {x : Operand} {lo hi mx : Option Operand} {X : Ctx} {ρ : Operand → Value} (ho : o.op = .slice ty x lo hi mx) (hop : ∀ x ∈ o.op.operands, VRep X (ev t x) (ρ x)) : VRep X (ev t x) (ρ x) ∧ ∀ y, (lo = some y ∨ hi = some y ∨ mx = some y) → VRep X (ev t y) (ρ y) := by
  refine ⟨hop x (by simp [ho, Op.operands]), fun y hy => hop y ?_⟩
  rcases hy with rfl | rfl | rfl <;> simp [ho, Op.operands]
/-- A cut of a slice that is read (no end of the room told). -/
theorem step_slice {ty el : TypeId} {x : Operand} {lo hi : Option Operand} {e l h : Nat} {v : V} {xs ys : List (List V)} (ho : o.op = .slice ty x lo hi none) (hx : ev t x = v) (hv : IsSl v e xs) (hu : P.underlying ty = some (.slice el)) (he : (P.info? el).map (·.size) = some e)
    (hlo : bndLo (lo.map (ev t)) = some l) (hhi : bndHi xs.length (hi.map (ev t)) = some h) (hlh : l ≤ h) (hh : h ≤ xs.length) (hy : (xs.take h).drop l = ys) : StepOK P o t [] [] (.sl e ys) := by
  refine step_value fun n X ρ hR hop hpre => ?_
  obtain ⟨h1, h2⟩ := slice_ops ho hop
  rw [hx] at h1
  obtain ⟨a, c, g1, g2, g3⟩ := hv.rep h1
  refine ⟨.slice (if c = l then a else a.map (·.add (l * e))) (h - l) (c - l), exec_run (exec_slice ho) ?_, ?_⟩
  · rw [g1]
    unfold Instr.sliceAt
    simp only [Sem.run_bind, run_under hu, Result.andThen_ok, Instr.slice]
    rw [run_bounds (X := X) (m := c) h2 hlo hhi rfl (by simp) hlh (by omega) (Nat.le_refl _)]
    simp only [Result.andThen_ok, run_size he]
    rfl
  · simp only [VRep]
    have hyl : ys.length = h - l := by rw [← hy]; simp; omega
    refine ⟨_, c - l, by rw [hyl], by omega, ?_⟩
    by_cases hlh' : h - l = 0
    · exact .inl (List.length_eq_zero_iff.1 (by omega))
    · rcases g3 with rfl | ⟨b, q, rfl, g4⟩
      · simp at hh; omega
      · refine .inr ⟨b, q + l * e, ?_, hy ▸ (g4.taken h).dropped l⟩
        rw [if_neg (by omega)]
        simp [addr_add]
theorem step_slice_arr {ty el : TypeId} {x : Operand} {lo hi mx : Option Operand} {e k q len l h m : Nat} (ho : o.op = .slice ty x lo hi mx) (hx : ev t x = .ref k q) (hu : P.underlying ty = some (.array len el)) (he : (P.info? el).map (·.size) = some e)
    (hlo : bndLo (lo.map (ev t)) = some l) (hhi : bndHi len (hi.map (ev t)) = some h) (hmx : bndHi len (mx.map (ev t)) = some m) (hmh : mx.isSome = true → hi.isSome = true) (hlh : l ≤ h) (hh : h ≤ m) (hm : m ≤ len) : StepOK P o t [] [] (.msl k (if m = l then q else q + l * e) (h - l) (m - l) e) := by
  refine step_value fun n X ρ hR hop hpre => ?_
  obtain ⟨h1, h2⟩ := slice_ops ho hop
  rw [hx] at h1
  simp only [VRep] at h1
  refine ⟨_, exec_run (exec_slice ho) (u := .slice (some ⟨X.bl k, if m = l then q else q + l * e, none⟩) (h - l) (m - l)) ?_, by simp only [VRep]; exact ⟨h1.1, trivial⟩⟩
  rw [h1.2]
  unfold Instr.sliceAt
  simp only [Sem.run_bind, run_under hu, Result.andThen_ok, Instr.sureAddr, Sem.run_pure]
  rw [run_bounds (X := X) h2 hlo hhi hmx hmh hlh hh hm]
  simp only [Result.andThen_ok, run_size he]
  by_cases hml : m = l
  · simp [hml]
  · simp [hml, addr_add]
/-! ### copy -/
theorem flat_take {e : Nat} : ∀ (ys : List (List V)) (m : Nat), (∀ r ∈ ys, r.length = e) → (ys.take m).flatten = ys.flatten.take (m * e)
  | [], m, h => by simp
  | r :: rs, m, h => by
    cases m with
    | zero => simp
    | succ m =>
      have hr := h r (List.mem_cons_self ..)
      rw [List.take_succ_cons, List.flatten_cons, List.flatten_cons, flat_take rs m (fun r' hr' => h r' (List.mem_cons_of_mem _ hr'))]
      rw [List.take_append, hr, show (m + 1) * e - e = m * e by rw [Nat.add_mul]; omega, List.take_of_length_le (l := r) (by rw [hr, Nat.add_mul]; omega)]
/-- copy into a box's slice. -/
theorem step_copy {ty el : TypeId} {tys : Array TypeId} {x y : Operand} {e k q len cap m : Nat} {cs cs' : List V} {vy : V} {ys : List (List V)} (ho : o.op = .call { callee := .builtin .copy, args := #[x, y], argTypes := tys }) (h0 : tys[0]? = some ty) (hu : P.underlying ty = some (.slice el)) (he : (P.info? el).map (·.size) = some e)
    (hx : ev t x = .msl k q len cap e) (hy : ev t y = vy) (hvy : Gives vy e ys pre) (hm : min ys.length len = m) (hl : q + len * e ≤ cs.length) (hcs : setSeg cs q (ys.take m).flatten = cs') :
    StepOK P o t ((k, .cells cs) :: pre) [(k, .cells cs')] (.sc (.int .i64 m)) := by
  intro n X a next Q hR hop hpre hup hk
  have g1 := hop x (by simp [ho, Op.operands, Call.operands])
  have g2 := hop y (by simp [ho, Op.operands, Call.operands])
  rw [hx] at g1; rw [hy] at g2
  simp only [VRep] at g1
  have hb : X.bx k = .cells cs := hpre (k, .cells cs) (by simp)
  obtain ⟨l1, l2, new, l3, l4, l5, l6⟩ := hvy P n X _ hR g2 (fun p hp => hpre p (List.mem_cons_of_mem _ hp))
  obtain ⟨us, ty', h3, h4, h5⟩ := (hR.box k cs hb).2
  have hcl : us.length = cs.length := h4.length.symm
  have hmy : m ≤ ys.length := by omega
  have hml : m ≤ len := by omega
  have hme := Nat.mul_le_mul_right e hmy
  have hle := Nat.mul_le_mul_right e hml
  have hnl : (new.take (m * e)).length = m * e := by rw [List.length_take, l4]; omega
  obtain ⟨w', r1, r2, r3, r4, r5, r6, r7⟩ := run_storeCells (P := P) (b := X.bl k) (new.take (m * e)) q 0 X.w us ty' h3 (by omega) (fun x hx => l5 x (List.mem_of_mem_take hx))
  have hft : (ys.take m).flatten = ys.flatten.take (m * e) := flat_take ys m l2
  have hfl : (ys.take m).flatten.length = m * e := by rw [hft, List.length_take, l3.length, l4]; omega
  have hex : execOp a.eval o = (do pure (.value (← Builtin.copy_ tys o.type #[a.eval x, a.eval y]))) := by
    rw [exec_builtin ho]
    have e1 : (#[x, y].map a.eval : Array Value) = #[a.eval x, a.eval y] := by simp
    rw [e1]; rfl
  have hrun : (Builtin.copy_ tys o.type #[a.eval x, a.eval y]).run P X.w = .ok (.int .i64 m) w' := by
    have h6 := l6 X.w.drawn m hmy
    have hmin : Nat.min ys.length len = m := hm
    unfold Builtin.copy_
    simp only [h0, List.getElem?_toArray, List.getElem?_cons_zero, List.getElem?_cons_succ, Sem.run_bind, run_under hu, Result.andThen_ok, g1.2, l1, run_size he, hmin]
    have h6' : (Builtin.firstCells e m (a.eval y)).run P X.w = .ok (new.take (m * e)).toArray X.w := h6
    simp only [h6', Result.andThen_ok, r1, Sem.run_bind]
    rfl
  have hnew : RowRep X cs' (us.take q ++ new.take (m * e) ++ us.drop (q + (new.take (m * e)).length)) := by
    rw [← hcs]
    unfold setSeg
    rw [hfl, hnl, hft]
    exact ((h4.take q).append (l3.take _)).append (h4.drop _)
  have hone : ∀ x ∈ us.take q ++ new.take (m * e) ++ us.drop (q + (new.take (m * e)).length), oneV x = true := by
    intro x hx
    rcases List.mem_append.1 hx with hx | hx
    · rcases List.mem_append.1 hx with hx | hx
      · exact h5 x (List.mem_of_mem_take hx)
      · exact l5 x (List.mem_of_mem_take hx)
    · exact h5 x (List.mem_of_mem_drop hx)
  obtain ⟨e1, e2⟩ := set_box (w' := w') hR hb r2 r3 r4 r5 r6 ⟨ty', r7⟩ hnew hone
  unfold Oper.wp
  rw [exec_run hex hrun]
  exact hk _ _ rfl e1 e2 (by simp [VRep])
/-! ### What is compared -/
end
section
variable {P : Program} {o : Oper} {t : Nat → V} {pre up : List (Nat × Box)} {val : V}
/-! ### min, max -/
theorem step_max {x y : Operand} {tys : Array TypeId} {k : IntKind} {a b : Int} (ho : o.op = .call { callee := .builtin .max, args := #[x, y], argTypes := tys }) (hx : ev t x = .sc (.int k a)) (hy : ev t y = .sc (.int k b)) : StepOK P o t [] [] (.sc (.int k (if b > a then b else a))) := by
  refine step_value fun n X ρ hR hop hpre => ?_
  have g1 := hop x (by simp [ho, Op.operands, Call.operands])
  have g2 := hop y (by simp [ho, Op.operands, Call.operands])
  rw [hx] at g1; rw [hy] at g2
  simp only [VRep] at g1 g2
  refine ⟨.int k (if b > a then b else a), ?_, by simp only [VRep]⟩
  rw [exec_builtin ho]
  have e1 : (#[x, y].map ρ : Array Value) = #[.int k a, .int k b] := by simp [g1, g2]
  rw [e1]
  rfl
/-! ### Functions held as values -/
theorem step_makeFunc {f : FuncId} {xs : Array Operand} {vs : List V} (ho : o.op = .makeFunc (.func f) #[] xs) (hvs : xs.toList.map (ev t) = vs) : StepOK P o t [] [] (.fn f vs) := by
  refine step_value fun n X ρ hR hop hpre => ?_
  refine ⟨.func (.func f) #[] (xs.map ρ), exec_run (exec_makeFunc ho) (by simp [Instr.makeFunc]), ?_⟩
  simp only [VRep]
  refine ⟨(xs.map ρ).toList, by rw [Array.toArray_toList], ?_⟩
  rw [Array.toList_map]
  exact rowRep_map _ _ hvs (fun x hx => hop x (by simp [ho, Op.operands]; simpa using hx))
end
end Go.Vm
