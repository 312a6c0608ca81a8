/- A logic of values over the model. Part D: operations on values, boxes, read rows; calls. -/
import Derived.Test.YthpkhecialkmmaaKeVmC
set_option linter.unusedVariables false
set_option linter.unusedSimpArgs false
namespace Go.Vm
section
variable {P : Program} {o : Oper} {t : Nat → V} {pre up : List (Nat × Box)} {val : V}

/-! ### What each operation runs -/
theorem exec_load {ρ : Operand → Value} {ty : TypeId} {x : Operand} (ho : o.op = .load ty x) : execOp ρ o = (do pure (.value (← Instr.loadAt ty (ρ x)))) := by unfold execOp; rw [ho]
theorem exec_store {ρ : Operand → Value} {ty : TypeId} {x y : Operand} (ho : o.op = .store ty x y) : execOp ρ o = (do Instr.storeAt ty (ρ x) (ρ y); pure .skip) := by unfold execOp; rw [ho]
theorem exec_box {ρ : Operand → Value} {ty : TypeId} {x : Operand} (ho : o.op = .box ty x) : execOp ρ o = (do pure (.value (← Instr.box ty (ρ x)))) := by unfold execOp; rw [ho]
theorem exec_alloc {ρ : Operand → Value} {ty : TypeId} (ho : o.op = .alloc ty) : execOp ρ o = (do pure (.value (← Instr.alloc ty true (.tuple #[])))) := by unfold execOp; rw [ho]
theorem exec_fieldAddr {ρ : Operand → Value} {ty : TypeId} {x : Operand} {f : Nat} (ho : o.op = .fieldAddr ty x f) : execOp ρ o = (do pure (.value (← Instr.fieldAt ty (ρ x) f))) := by unfold execOp; rw [ho]
theorem exec_indexAddr {ρ : Operand → Value} {ty : TypeId} {x y : Operand} (ho : o.op = .indexAddr ty x y) : execOp ρ o = (do pure (.value (← Instr.indexAt ty (ρ x) (ρ y)))) := by unfold execOp; rw [ho]
theorem exec_index {ρ : Operand → Value} {ty : TypeId} {x y : Operand} (ho : o.op = .index ty x y) : execOp ρ o = (do pure (.value (← Instr.index ty (ρ x) (ρ y)))) := by unfold execOp; rw [ho]
theorem exec_build {ρ : Operand → Value} {ty : TypeId} {ps : Array (Nat × Operand)} (ho : o.op = .build ty ps) : execOp ρ o = (do pure (.value (← Instr.build ty (ps.map fun (i, x) => (i, ρ x))))) := by unfold execOp; rw [ho]
theorem exec_buildSlice {ρ : Operand → Value} {ty : TypeId} {m : Nat} {ps : Array (Nat × Operand)} (ho : o.op = .buildSlice ty m ps) : execOp ρ o = (do pure (.value (← Instr.buildSlice ty m (ps.map fun (i, x) => (i, ρ x))))) := by unfold execOp; rw [ho]
theorem exec_call {ρ : Operand → Value} {c : Call} (ho : o.op = .call c) : execOp ρ o = (do let d ← resolve ρ c o.type; invoke d.target d.args) := by unfold execOp; rw [ho]
theorem exec_makeFunc {ρ : Operand → Value} {f : Fn} {fs cs : Array Operand} (ho : o.op = .makeFunc f fs cs) : execOp ρ o = (do pure (.value (← Instr.makeFunc f (fs.map ρ) (cs.map ρ)))) := by unfold execOp; rw [ho]
theorem exec_extract {ρ : Operand → Value} {x : Operand} {i : Nat} (ho : o.op = .extract x i) : execOp ρ o = (do pure (.value (← Instr.extract (ρ x) i))) := by unfold execOp; rw [ho]
theorem exec_pick {ρ : Operand → Value} {c a b : Operand} (ho : o.op = .pick c a b) : execOp ρ o = (do pure (.value (if ← asBool (ρ c) then ρ a else ρ b))) := by unfold execOp; rw [ho]
theorem exec_binOp {ρ : Operand → Value} {op : BinOp} {ty ty2 : TypeId} {x y : Operand} (ho : o.op = .binOp op ty x y ty2) : execOp ρ o = (do pure (.value (← (do eqGuard op ty x y (ρ x) (ρ y); binOp op ty (ρ x) (ρ y))))) := by unfold execOp; rw [ho]
theorem exec_unOp {ρ : Operand → Value} {op : UnOp} {ty : TypeId} {x : Operand} (ho : o.op = .unOp op ty x) : execOp ρ o = (do pure (.value (← Op.unary op (ρ x)))) := by unfold execOp; rw [ho]
theorem exec_convert {ρ : Operand → Value} {ty ty2 : TypeId} {x : Operand} (ho : o.op = .convert ty ty2 x) : execOp ρ o = (do pure (.value (← convert ty ty2 (ρ x)))) := by unfold execOp; rw [ho]
def isC : Operand → Bool | .const _ => true | _ => false
theorem exec_builtin {ρ : Operand → Value} {b : Builtin} {xs : Array Operand} {tys : Array TypeId} (ho : o.op = .call { callee := .builtin b, args := xs, argTypes := tys }) : execOp ρ o = builtin b tys o.type (xs.map isC) (xs.map ρ) := by rw [exec_call ho]; rfl
theorem run_val {ρ : Operand → Value} {x : Sem Value} {u : Value} {w w' : World} (h : x.run P w = .ok u w') : (do pure (Next.value (← x)) : Sem Next).run P w = .ok (.value u) w' := by
  rw [Sem.run_bind, h]; rfl
theorem exec_run {ρ : Operand → Value} {x : Sem Value} {u : Value} {w w' : World} (he : execOp ρ o = (do pure (Next.value (← x)))) (h : x.run P w = .ok u w') : (execOp ρ o).run P w = .ok (.value u) w' := by
  rw [he, Sem.run_bind, h]; rfl
theorem step_value (h : ∀ n X (ρ : Operand → Value), R n X → (∀ x ∈ o.op.operands, VRep X (ev t x) (ρ x)) → (∀ p ∈ pre, X.bx p.1 = p.2) → ∃ u, (execOp ρ o).run P X.w = .ok (.value u) X.w ∧ VRep X val u) : StepOK P o t pre [] val := by
  intro n X a next Q hR hop hpre hup hk
  obtain ⟨u, h1, h2⟩ := h n X a.eval hR hop hpre
  unfold Oper.wp
  rw [h1]
  exact hk X u rfl hR (Ext.refl X) h2
theorem step_move {x : Operand} (ho : o.op = .move x) : StepOK P o t [] [] (ev t x) :=
  step_value fun n X ρ hR hop _ => ⟨ρ x, by unfold execOp; rw [ho]; rfl, hop x (by simp [ho, Op.operands])⟩
theorem step_assign {x : Operand} (ho : o.op = .assign x) : StepOK P o t [] [] (ev t x) :=
  step_value fun n X ρ hR hop _ => ⟨ρ x, by unfold execOp; rw [ho]; rfl, hop x (by simp [ho, Op.operands])⟩
theorem step_pick {c x y : Operand} {b : Bool} {v : V} (ho : o.op = .pick c x y) (hc : ev t c = .sc (.bool b)) (hv : ev t (if b then x else y) = v) : StepOK P o t [] [] v := by
  refine step_value fun n X ρ hR hop _ => ?_
  have h1 := hop c (by simp [ho, Op.operands])
  have h2 := hop x (by simp [ho, Op.operands])
  have h3 := hop y (by simp [ho, Op.operands])
  rw [hc] at h1
  simp only [VRep] at h1
  refine ⟨if b then ρ x else ρ y, ?_, ?_⟩
  · rw [exec_pick ho, h1]; rfl
  · subst hv
    cases b
    · simpa using h3
    · simpa using h2
theorem step_binOp {op : BinOp} {ty ty2 : TypeId} {x y : Operand} {a b c : Value} (ho : o.op = .binOp op ty x y ty2) (hx : ev t x = .sc a) (hy : ev t y = .sc b)
    (hr : ∀ w, (do eqGuard op ty x y a b; binOp op ty a b : Sem Value).run P w = .ok c w) : StepOK P o t [] [] (.sc c) := by
  refine step_value fun n X ρ hR hop _ => ?_
  have h1 := hop x (by simp [ho, Op.operands])
  have h2 := hop y (by simp [ho, Op.operands])
  rw [hx] at h1; rw [hy] at h2
  simp only [VRep] at h1 h2
  refine ⟨c, ?_, by simp [VRep]⟩
  exact exec_run (exec_binOp ho) (by rw [h1, h2]; exact hr X.w)
theorem step_unOp {op : UnOp} {ty : TypeId} {x : Operand} {a c : Value} (ho : o.op = .unOp op ty x) (hx : ev t x = .sc a) (hr : ∀ w, (Op.unary op a).run P w = .ok c w) : StepOK P o t [] [] (.sc c) := by
  refine step_value fun n X ρ hR hop _ => ?_
  have h1 := hop x (by simp [ho, Op.operands])
  rw [hx] at h1
  simp only [VRep] at h1
  refine ⟨c, ?_, by simp [VRep]⟩
  exact exec_run (exec_unOp ho) (by rw [h1]; exact hr X.w)
/-- A conversion from a value of one cell to one (whole numbers). -/
theorem step_convert {ty ty2 : TypeId} {x : Operand} {a c : Value} (ho : o.op = .convert ty ty2 x) (hx : ev t x = .sc a) (hr : ∀ w, (convert ty ty2 a).run P w = .ok c w) : StepOK P o t [] [] (.sc c) := by
  refine step_value fun n X ρ hR hop _ => ?_
  have h1 := hop x (by simp [ho, Op.operands])
  rw [hx] at h1
  simp only [VRep] at h1
  refine ⟨c, ?_, by simp [VRep]⟩
  exact exec_run (exec_convert ho) (by rw [h1]; exact hr X.w)
theorem step_extract {x : Operand} {i : Nat} {vs : List V} {v : V} (ho : o.op = .extract x i) (hx : ev t x = .tup vs) (hv : vs[i]? = some v) : StepOK P o t [] [] v := by
  refine step_value fun n X ρ hR hop _ => ?_
  have h1 := hop x (by simp [ho, Op.operands])
  rw [hx] at h1
  simp only [VRep] at h1
  obtain ⟨us, h2, h3⟩ := h1
  obtain ⟨u, h4, h5⟩ := RowRep.get i h3 hv
  refine ⟨u, ?_, h5⟩
  refine exec_run (exec_extract ho) ?_
  simp only [h2, Instr.extract, List.getElem?_toArray, h4]
  rfl
/-! ### Types -/
theorem run_under {d : TypeDesc} {ty : TypeId} (h : P.underlying ty = some d) (w : World) : (underlying ty).run P w = .ok d w := run_underlying h w
theorem run_size {m : Nat} {ty : TypeId} (h : (P.info? ty).map (·.size) = some m) (w : World) : (sizeOf ty).run P w = .ok m w := by
  cases hq : P.info? ty with
  | none => simp [hq] at h
  | some i => simp [hq] at h; simp [sizeOf, typeInfo, hq, h]
theorem run_isAgg {d : TypeDesc} {ty : TypeId} (h : P.underlying ty = some d) (w : World) : (isAgg ty).run P w = .ok (aggD d) w := by
  unfold isAgg
  rw [Sem.run_bind, run_under h w]
  cases d <;> rfl
theorem run_zero {z : Value} {ty : TypeId} (h : (P.info? ty).bind (·.zero) = some z) (w : World) : (zeroValue ty).run P w = .ok z w := by
  cases hq : P.info? ty with
  | none => simp [hq] at h
  | some i => simp [hq] at h; simp [zeroValue, typeInfo, hq, h]
theorem cell_some {w : World} {b q : Nat} {us : List Value} {ty : TypeId} {fr : Nat × Nat} (h : w.heap[b]? = some (.cells us.toArray ty fr)) : w.cell? ⟨b, q, none⟩ = us[q]? := by
  rw [cell_of_row w b q _ _ _ h]; simp
theorem addr_add (b q n : Nat) : Addr.add ⟨b, q, none⟩ n = ⟨b, q + n, none⟩ := Addr.add_lit b q n
/-! ### Boxes: made, read, written -/
def V.cs : V → List V
  | .agg cs => cs
  | v => [v]
/-- A value that can be put into cells. -/
def V.stor : V → Bool
  | .sc v => oneV v
  | .junk => false
  | .tup _ => false
  | _ => true
theorem rep_one {X : Ctx} {v : V} {u : Value} (h : VRep X v u) (hs : v.stor = true) (hv : ∀ cs, v ≠ .agg cs) : oneV u = true := by
  cases v with
  | junk => cases hs
  | sc v => simp only [VRep] at h; subst h; exact hs
  | ref k q => simp only [VRep] at h; rw [h.2]; rfl
  | ro row => simp only [VRep] at h; obtain ⟨b, q, rfl, _⟩ := h; rfl
  | sl e xs => simp only [VRep] at h; obtain ⟨a, c, rfl, _⟩ := h; rfl
  | fl e xs => simp only [VRep] at h; obtain ⟨a, rfl, _⟩ := h; rfl
  | own e xs k => simp only [VRep] at h; obtain ⟨a, c, rfl, _⟩ := h; rfl
  | msl k q len cap e => simp only [VRep] at h; rw [h.2]; rfl
  | fn f cap => simp only [VRep] at h; obtain ⟨us, rfl, _⟩ := h; rfl
  | gsl k ver q len e => simp only [VRep] at h; obtain ⟨a, c, _, _, _, rfl, _⟩ := h; rfl
  | gref k ver q => simp only [VRep] at h; obtain ⟨ad, _, _, _, rfl, _⟩ := h; rfl
  | agg cs => exact absurd rfl (hv cs)
  | tup vs => cases hs
theorem one_cells {u : Value} (h : oneV u = true) : u.cells = #[u] := by cases u <;> first | rfl | cases h
theorem rep_cells {X : Ctx} {v : V} {u : Value} (h : VRep X v u) (hs : v.stor = true) : ∃ us, u.cells = us.toArray ∧ RowRep X v.cs us ∧ ∀ x ∈ us, oneV x = true := by
  by_cases hv : ∃ cs, v = .agg cs
  · obtain ⟨cs, rfl⟩ := hv
    simp only [VRep] at h
    obtain ⟨us, rfl, h2, h3⟩ := h
    exact ⟨us, rfl, h2, h3⟩
  · have h1 := rep_one h hs (fun cs e => hv ⟨cs, e⟩)
    refine ⟨[u], one_cells h1, ?_, by simpa using h1⟩
    have : v.cs = [v] := by cases v <;> first | rfl | exact absurd ⟨_, rfl⟩ hv
    rw [this]
    exact RowRep.one h
theorem step_box {ty : TypeId} {x : Operand} {v : V} {k : Nat} (ho : o.op = .box ty x) (hx : ev t x = v) (hs : v.stor = true) : StepOK P o t [(k, .dead)] [(k, .cells v.cs)] (.ref k 0) := by
  intro n X a next Q hR hop hpre hup hk
  have h1 := hop x (by simp [ho, Op.operands])
  rw [hx] at h1
  obtain ⟨us, h2, h3, h4⟩ := rep_cells h1 hs
  obtain ⟨X', g1, g2, g3, g4, g5⟩ := new_box (ty := ty) hR (hpre (k, .dead) (by simp)) (hup (k, .cells v.cs) (by simp)) h3 h4
  have he : (execOp a.eval o).run P X.w = .ok (.value (.pointer (some ⟨X.w.heap.size, 0, none⟩))) X'.w := by
    rw [g2]
    refine exec_run (exec_box ho) ?_
    simp only [Instr.box, newVar, newRow, newObj, h2]
    rfl
  unfold Oper.wp
  rw [he]
  refine hk X' _ g1 g4 g5 ?_
  simp only [VRep]
  rw [g1, upd_eq, g3]
  exact ⟨trivial, rfl⟩
theorem rowRep_sc (X : Ctx) : ∀ zs : List Value, RowRep X (zs.map V.sc) zs
  | [] => by simp [RowRep]
  | z :: zs => by simp only [List.map_cons, RowRep]; exact ⟨z, zs, rfl, by simp [VRep], rowRep_sc X zs⟩
theorem step_alloc {ty : TypeId} {z : Value} {zs : List Value} {k : Nat} (ho : o.op = .alloc ty) (hz : (P.info? ty).bind (·.zero) = some z) (hzs : z.cells.toList = zs) (h1 : zs.all oneV = true) : StepOK P o t [(k, .dead)] [(k, .cells (zs.map V.sc))] (.ref k 0) := by
  intro n X a next Q hR hop hpre hup hk
  obtain ⟨X', g1, g2, g3, g4, g5⟩ := new_box (ty := ty) hR (hpre (k, .dead) (by simp)) (hup (k, .cells (zs.map V.sc)) (by simp)) (rowRep_sc X zs) (by simpa [List.all_eq_true] using h1)
  have he : (execOp a.eval o).run P X.w = .ok (.value (.pointer (some ⟨X.w.heap.size, 0, none⟩))) X'.w := by
    rw [g2]
    refine exec_run (exec_alloc ho) ?_
    have : z.cells = zs.toArray := by rw [← hzs]
    simp only [Instr.alloc, Sem.run_bind, run_zero hz, newVar, newRow, newObj, Result.andThen_ok, this]
    rfl
  unfold Oper.wp
  rw [he]
  refine hk X' _ g1 g4 g5 ?_
  simp only [VRep]
  rw [g1, upd_eq, g3]
  exact ⟨trivial, rfl⟩
theorem run_loadOne {ty : TypeId} {d : TypeDesc} {ad : Addr} {u : Value} {w : World} (hd : P.underlying ty = some d) (hd' : aggD d = false) (hc : w.cell? ad = some u) : (loadVar ty ad).run P w = .ok u w := by
  simp [loadVar, Sem.run_bind, run_isAgg hd, hd', load, Sem.run, hc]
theorem run_loadAgg {ty : TypeId} {d : TypeDesc} {ad : Addr} {us : List Value} {w : World} (hd : P.underlying ty = some d) (hd' : aggD d = true) (hs : (P.info? ty).map (·.size) = some us.length) (hc : ∀ j v, us[j]? = some v → w.cell? (ad.add j) = some v) :
    (loadVar ty ad).run P w = .ok (.agg us.toArray) w := by
  simp [loadVar, Sem.run_bind, run_isAgg hd, hd', run_size hs, run_loadCells_list (P := P) w ad us hc]
theorem step_load_one {ty : TypeId} {x : Operand} {k q : Nat} {cs : List V} {v : V} (ho : o.op = .load ty x) (hx : ev t x = .ref k q) (ht : OneT P ty) (hv : cs[q]? = some v) : StepOK P o t [(k, .cells cs)] [] v := by
  refine step_value fun n X ρ hR hop hpre => ?_
  have h1 := hop x (by simp [ho, Op.operands])
  rw [hx] at h1
  simp only [VRep] at h1
  obtain ⟨us, ty', h2, h3, _⟩ := (hR.box k cs (hpre (k, .cells cs) (by simp))).2
  obtain ⟨u, h4, h5⟩ := RowRep.get q h3 hv
  obtain ⟨⟨d, hd, hd'⟩, _⟩ := ht
  refine ⟨u, ?_, h5⟩
  have hc : X.w.cell? ⟨X.bl k, q, none⟩ = some u := by rw [cell_some h2]; exact h4
  exact exec_run (exec_load ho) (by rw [h1.2]; exact run_loadOne hd hd' hc)
theorem step_load_agg {ty : TypeId} {x : Operand} {k q m : Nat} {cs cs' : List V} (ho : o.op = .load ty x) (hx : ev t x = .ref k q) (ht : AggT P ty m) (hv : (cs.drop q).take m = cs') (hl : cs'.length = m) : StepOK P o t [(k, .cells cs)] [] (.agg cs') := by
  refine step_value fun n X ρ hR hop hpre => ?_
  have h1 := hop x (by simp [ho, Op.operands])
  rw [hx] at h1
  simp only [VRep] at h1
  obtain ⟨us, ty', h2, h3, h4⟩ := (hR.box k cs (hpre (k, .cells cs) (by simp))).2
  obtain ⟨⟨d, hd, hd'⟩, hs⟩ := ht
  have h5 : RowRep X cs' ((us.drop q).take m) := hv ▸ (h3.drop q).take m
  refine ⟨.agg ((us.drop q).take m).toArray, ?_, ?_⟩
  · have hc : ∀ j v, ((us.drop q).take m)[j]? = some v → X.w.cell? ((⟨X.bl k, q, none⟩ : Addr).add j) = some v := by
      intro j v hj
      rw [addr_add, cell_some h2]
      rw [List.getElem?_take] at hj
      split at hj
      · rw [List.getElem?_drop] at hj; exact hj
      · cases hj
    exact exec_run (exec_load ho) (by rw [h1.2]; exact run_loadAgg (us := (us.drop q).take m) hd hd' (by rw [← h5.length, hl]; exact hs) hc)
  · simp only [VRep]
    exact ⟨_, rfl, h5, fun y hy => h4 y (List.mem_of_mem_drop (List.mem_of_mem_take hy))⟩
theorem CellsAt.get {X : Ctx} : ∀ {vs : List V} {b q : Nat} (i : Nat) {v : V}, CellsAt X vs b q → vs[i]? = some v → ∃ u, X.w.cell? ⟨b, q + i, none⟩ = some u ∧ VRep X v u ∧ oneV u = true
  | [], b, q, i, v, h, hi => by simp at hi
  | w :: vs, b, q, i, v, h, hi => by
    simp only [CellsAt] at h
    obtain ⟨⟨u, h1, h2, _, h3⟩, h4⟩ := h
    cases i with
    | zero => simp at hi; subst hi; exact ⟨u, h1, h2, h3⟩
    | succ i =>
      simp at hi
      obtain ⟨u', g1, g2, g3⟩ := CellsAt.get i h4 hi
      exact ⟨u', by rw [show q + (i + 1) = q + 1 + i by omega]; exact g1, g2, g3⟩
theorem CellsAt.row {X : Ctx} : ∀ {vs : List V} {b q : Nat}, CellsAt X vs b q → ∃ us, RowRep X vs us ∧ (∀ j v, us[j]? = some v → X.w.cell? ⟨b, q + j, none⟩ = some v) ∧ ∀ x ∈ us, oneV x = true
  | [], b, q, h => ⟨[], by simp [RowRep], by simp, by simp⟩
  | w :: vs, b, q, h => by
    simp only [CellsAt] at h
    obtain ⟨⟨u, h1, h2, _, h3⟩, h4⟩ := h
    obtain ⟨us, g1, g2, g3⟩ := CellsAt.row h4
    refine ⟨u :: us, by simp only [RowRep]; exact ⟨u, us, rfl, h2, g1⟩, fun j v hj => ?_, ?_⟩
    · cases j with
      | zero => simp at hj; subst hj; exact h1
      | succ j => simp at hj; rw [show q + (j + 1) = q + 1 + j by omega]; exact g2 j v hj
    · intro x hx
      rcases List.mem_cons.1 hx with rfl | hx
      · exact h3
      · exact g3 x hx
theorem step_load_ro {ty : TypeId} {x : Operand} {row : List V} {v : V} (ho : o.op = .load ty x) (hx : ev t x = .ro row) (ht : OneT P ty) (hv : row[0]? = some v) : StepOK P o t [] [] v := by
  refine step_value fun n X ρ hR hop hpre => ?_
  have h1 := hop x (by simp [ho, Op.operands])
  rw [hx] at h1
  simp only [VRep] at h1
  obtain ⟨b, q, h2, h3⟩ := h1
  obtain ⟨u, h4, h5, _⟩ := h3.get 0 hv
  obtain ⟨⟨d, hd, hd'⟩, _⟩ := ht
  refine ⟨u, ?_, h5⟩
  exact exec_run (exec_load ho) (by rw [h2]; exact run_loadOne hd hd' h4)
theorem step_load_ro_agg {ty : TypeId} {x : Operand} {m : Nat} {row row' : List V} (ho : o.op = .load ty x) (hx : ev t x = .ro row) (ht : AggT P ty m) (hv : row.take m = row') (hl : row'.length = m) : StepOK P o t [] [] (.agg row') := by
  refine step_value fun n X ρ hR hop hpre => ?_
  have h1 := hop x (by simp [ho, Op.operands])
  rw [hx] at h1
  simp only [VRep] at h1
  obtain ⟨b, q, h2, h3⟩ := h1
  obtain ⟨us, g1, g2, g3⟩ := h3.row
  obtain ⟨⟨d, hd, hd'⟩, hs⟩ := ht
  have h5 : RowRep X row' (us.take m) := hv ▸ g1.take m
  refine ⟨.agg (us.take m).toArray, ?_, ?_⟩
  · have hc : ∀ j v, (us.take m)[j]? = some v → X.w.cell? ((⟨b, q, none⟩ : Addr).add j) = some v := by
      intro j v hj
      rw [addr_add]
      rw [List.getElem?_take] at hj
      split at hj
      · exact g2 j v hj
      · cases hj
    exact exec_run (exec_load ho) (by rw [h2]; exact run_loadAgg (us := us.take m) hd hd' (by rw [← h5.length, hl]; exact hs) hc)
  · simp only [VRep]
    exact ⟨_, rfl, h5, fun y hy => g3 y (List.mem_of_mem_take hy)⟩
/-- Cells of a row, set one behind the other. -/
theorem run_storeCells {b : Nat} : ∀ (vs : List Value) (q i : Nat) (w : World) (us : List Value) (ty : TypeId), w.heap[b]? = some (.cells us.toArray ty (0, 0)) → q + i + vs.length ≤ us.length → (∀ x ∈ vs, oneV x = true) →
    ∃ w', (storeCells ⟨b, q, none⟩ vs i).run P w = .ok () w' ∧ w'.os = w.os ∧ w'.tape = w.tape ∧ w'.output = w.output ∧ w'.heap.size = w.heap.size ∧ (∀ b', b' ≠ b → w'.heap[b']? = w.heap[b']?) ∧
      w'.heap[b]? = some (.cells (us.take (q + i) ++ vs ++ us.drop (q + i + vs.length)).toArray ty (0, 0))
  | [], q, i, w, us, ty, h, hl, h1 => ⟨w, rfl, rfl, rfl, rfl, rfl, fun _ _ => rfl, by rw [h]; simp⟩
  | v :: vs, q, i, w, us, ty, h, hl, h1 => by
    have hlt : q + i < us.length := by simp at hl; omega
    have hc : w.cell? ⟨b, q + i, none⟩ = some us[q + i] := by rw [cell_some h]; exact List.getElem?_eq_getElem hlt
    have hfz : w.frozen? ⟨b, q + i, none⟩ = false := by simp [World.frozen?, h]
    have hv : oneV v = true := h1 v (List.mem_cons_self ..)
    have hh : (w.setCell ⟨b, q + i, none⟩ v).heap[b]? = some (.cells (us.set (q + i) v).toArray ty (0, 0)) := by
      simp [World.setCell, Array.getElem?_modify, h]
    have hne : ∀ b', b' ≠ b → (w.setCell ⟨b, q + i, none⟩ v).heap[b']? = w.heap[b']? := by
      intro b' hb'
      simp only [World.setCell, Array.getElem?_modify]
      rw [if_neg (by intro e; exact hb' e.symm)]
    obtain ⟨w', g1, g2, g3, g4, g5, g6, g7⟩ := run_storeCells vs q (i + 1) (w.setCell ⟨b, q + i, none⟩ v) (us.set (q + i) v) ty hh (by simp at hl ⊢; omega) (fun x hx => h1 x (List.mem_cons_of_mem _ hx))
    refine ⟨w', ?_, g2, g3, g4, by rw [g5]; simp [World.setCell], fun b' hb' => (g6 b' hb').trans (hne b' hb'), ?_⟩
    · unfold storeCells
      rw [Sem.run_bind, addr_add]
      have : (store ⟨b, q + i, none⟩ v).run P w = .ok () (w.setCell ⟨b, q + i, none⟩ v) := by
        unfold store
        cases v <;> first | (cases hv; done) | (simp [Sem.run, hc, hfz])
      rw [this]
      exact g1
    · rw [g7]
      have e1 : (us.set (q + i) v).take (q + (i + 1)) = us.take (q + i) ++ [v] := by
        rw [show q + (i + 1) = q + i + 1 by omega, List.take_add_one, List.take_set_of_le (by omega), List.getElem?_set_self hlt]; rfl
      have e2 : (us.set (q + i) v).drop (q + (i + 1) + vs.length) = us.drop (q + i + (vs.length + 1)) := by
        rw [List.drop_set_of_lt (by omega)]; congr 1; omega
      rw [e1, e2]
      simp
theorem step_store {ty : TypeId} {x y : Operand} {k q m : Nat} {cs cs' : List V} {v : V} (ho : o.op = .store ty x y) (hd : o.dst = none) (hx : ev t x = .ref k q) (hy : ev t y = v) (hs : v.stor = true) (ht : (P.info? ty).map (·.size) = some m) (hm : v.cs.length = m)
    (hl : q + m ≤ cs.length) (hc : cs.take q ++ v.cs ++ cs.drop (q + m) = cs') : StepOK P o t [(k, .cells cs)] [(k, .cells cs')] .junk := by
  intro n X a next Q hR hop hpre hup hk
  have h1 := hop x (by simp [ho, Op.operands])
  have h2 := hop y (by simp [ho, Op.operands])
  rw [hx] at h1; rw [hy] at h2
  simp only [VRep] at h1
  obtain ⟨vs, g1, g2, g3⟩ := rep_cells h2 hs
  have hb : X.bx k = .cells cs := hpre (k, .cells cs) (by simp)
  obtain ⟨us, ty', h3, h4, h5⟩ := (hR.box k cs hb).2
  have hvl : vs.length = m := by rw [← g2.length]; exact hm
  have hcl : us.length = cs.length := h4.length.symm
  obtain ⟨w', r1, r2, r3, r4, r5, r6, r7⟩ := run_storeCells (P := P) (b := X.bl k) vs q 0 X.w us ty' h3 (by omega) g3
  have hrun : (execOp a.eval o).run P X.w = .ok .skip w' := by
    rw [exec_store ho, h1.2]
    have hsz : (Array.size (a.eval y).cells) = m := by rw [g1]; simpa using hvl
    simp only [Instr.storeAt, Instr.sureAddr, storeVar, Sem.run_bind, Sem.run_pure, Result.andThen_ok, run_size ht, hsz, ne_eq, not_true_eq_false, if_false]
    rw [g1]
    simp only [r1, Result.andThen_ok]
  have hnew : RowRep X cs' (us.take q ++ vs ++ us.drop (q + m)) := hc ▸ ((h4.take q).append g2).append (h4.drop (q + m))
  have hone : ∀ x ∈ us.take q ++ vs ++ us.drop (q + m), oneV x = true := by
    intro x hx
    rcases List.mem_append.1 hx with hx | hx
    · rcases List.mem_append.1 hx with hx | hx
      · exact h5 x (List.mem_of_mem_take hx)
      · exact g3 x hx
    · exact h5 x (List.mem_of_mem_drop hx)
  obtain ⟨e1, e2⟩ := set_box (w' := w') hR hb r2 r3 r4 r5 r6 ⟨ty', by rw [r7, hvl]; rfl⟩ hnew hone
  unfold Oper.wp
  rw [hrun]
  exact hk _ undef rfl e1 e2 (by simp [VRep])
theorem run_fieldAt {ty : TypeId} {fs : Array Field} {f : Nat} {fd : Field} {b q m : Nat} (hu : P.underlying ty = some (.struct fs)) (hf : fs[f]? = some fd) (hm : (P.info? fd.type).map (·.size) = some (m + 1)) (w : World) :
    (Instr.fieldAt ty (.pointer (some ⟨b, q, none⟩)) f).run P w = .ok (.pointer (some ⟨b, q + fd.offset, none⟩)) w := by
  simp only [Instr.fieldAt, Sem.run_bind, run_under hu, Result.andThen_ok, hf, Instr.sureAddr, Sem.run_pure, fieldPlace, run_size hm, Nat.add_eq_zero_iff, Nat.succ_ne_self, and_false, if_false, addr_add]
theorem step_fieldAddr {ty : TypeId} {x : Operand} {f k q m off : Nat} {fs : Array Field} {fd : Field} (ho : o.op = .fieldAddr ty x f) (hx : ev t x = .ref k q) (hu : P.underlying ty = some (.struct fs)) (hf : fs[f]? = some fd)
    (hm : (P.info? fd.type).map (·.size) = some (m + 1)) (hoff : fd.offset = off) : StepOK P o t [] [] (.ref k (q + off)) := by
  refine step_value fun n X ρ hR hop hpre => ?_
  have h1 := hop x (by simp [ho, Op.operands])
  rw [hx] at h1
  simp only [VRep] at h1
  subst hoff
  refine ⟨_, exec_run (exec_fieldAddr ho) (by rw [h1.2]; exact run_fieldAt hu hf hm X.w), ?_⟩
  simp only [VRep]
  exact ⟨h1.1, trivial⟩
theorem CellsAt.dropped {X : Ctx} : ∀ {vs : List V} {b q : Nat} (i : Nat), CellsAt X vs b q → CellsAt X (vs.drop i) b (q + i)
  | [], b, q, i, h => by simp [CellsAt]
  | w :: vs, b, q, i, h => by
    cases i with
    | zero => simpa using h
    | succ i =>
      simp only [CellsAt] at h
      have := CellsAt.dropped i h.2
      rw [show q + (i + 1) = q + 1 + i by omega]
      simpa using this
theorem step_fieldAddr_ro {ty : TypeId} {x : Operand} {f m off : Nat} {row row' : List V} {fs : Array Field} {fd : Field} (ho : o.op = .fieldAddr ty x f) (hx : ev t x = .ro row) (hu : P.underlying ty = some (.struct fs)) (hf : fs[f]? = some fd)
    (hm : (P.info? fd.type).map (·.size) = some (m + 1)) (hoff : fd.offset = off) (hr : row.drop off = row') : StepOK P o t [] [] (.ro row') := by
  refine step_value fun n X ρ hR hop hpre => ?_
  have h1 := hop x (by simp [ho, Op.operands])
  rw [hx] at h1
  simp only [VRep] at h1
  obtain ⟨b, q, h2, h3⟩ := h1
  subst hoff
  refine ⟨_, exec_run (exec_fieldAddr ho) (by rw [h2]; exact run_fieldAt hu hf hm X.w), ?_⟩
  simp only [VRep]
  exact ⟨b, _, rfl, hr ▸ h3.dropped _⟩
/-! ### Slices that are read -/
/-- A slice's rows, and how it stands in memory. -/
def IsSl (v : V) (e : Nat) (xs : List (List V)) : Prop := v = .sl e xs ∨ v = .fl e xs ∨ ∃ k, v = .own e xs k
theorem IsSl.rep {v : V} {e : Nat} {xs : List (List V)} (h : IsSl v e xs) {X : Ctx} {u : Value} (hv : VRep X v u) : ∃ a c, u = .slice a xs.length c ∧ xs.length ≤ c ∧ (xs = [] ∨ ∃ b q, a = some ⟨b, q, none⟩ ∧ RowsAt X e xs b q) := by
  rcases h with rfl | rfl | ⟨k, rfl⟩
  · simpa only [VRep] using hv
  · simp only [VRep] at hv
    obtain ⟨a, h1, h2⟩ := hv
    exact ⟨a, _, h1, Nat.le_refl _, h2⟩
  · simp only [VRep] at hv
    obtain ⟨a, c, h1, h2, h3, _⟩ := hv
    exact ⟨a, c, h1, h2, h3⟩
theorem RowsAt.get {X : Ctx} {e : Nat} : ∀ {xs : List (List V)} {b q : Nat} (i : Nat) {r : List V}, RowsAt X e xs b q → xs[i]? = some r → r.length = e ∧ CellsAt X r b (q + i * e)
  | [], b, q, i, r, h, hi => by simp at hi
  | x :: xs, b, q, i, r, h, hi => by
    simp only [RowsAt] at h
    obtain ⟨h1, h2, h3⟩ := h
    cases i with
    | zero => simp at hi; subst hi; simpa using ⟨h1, h2⟩
    | succ i =>
      simp at hi
      have := RowsAt.get i h3 hi
      rw [show q + (i + 1) * e = q + e + i * e by rw [Nat.add_mul]; omega]
      exact this
theorem run_indexAt_sl {ty el : TypeId} {e : Nat} {kd : IntKind} {i : Int} {b q len c : Nat} (hu : P.underlying ty = some (.slice el)) (he : (P.info? el).map (·.size) = some e) (h0 : 0 ≤ i) (h1 : i < len) (w : World) :
    (Instr.indexAt ty (.slice (some ⟨b, q, none⟩) len c) (.int kd i)).run P w = .ok (.pointer (some ⟨b, q + i.toNat * e, none⟩)) w := by
  simp only [Instr.indexAt, asIntOf, Sem.run_bind, Sem.run_pure, Result.andThen_ok, run_under hu, h0, h1, and_self, if_true, run_size he, addr_add]
theorem step_index {ty el : TypeId} {x y : Operand} {e : Nat} {kd : IntKind} {i : Int} {v : V} {xs : List (List V)} {r : List V} (ho : o.op = .indexAddr ty x y) (hx : ev t x = v) (hv : IsSl v e xs) (hy : ev t y = .sc (.int kd i))
    (hu : P.underlying ty = some (.slice el)) (he : (P.info? el).map (·.size) = some e) (h0 : 0 ≤ i) (hr : xs[i.toNat]? = some r) : StepOK P o t [] [] (.ro r) := by
  refine step_value fun n X ρ hR hop hpre => ?_
  have h1 := hop x (by simp [ho, Op.operands])
  have h2 := hop y (by simp [ho, Op.operands])
  rw [hx] at h1; rw [hy] at h2
  simp only [VRep] at h2
  obtain ⟨a, c, h3, h4, h5⟩ := hv.rep h1
  have hi : i.toNat < xs.length := (List.getElem?_eq_some_iff.1 hr).1
  rcases h5 with rfl | ⟨b, q, rfl, h6⟩
  · simp at hi
  · refine ⟨_, exec_run (exec_indexAddr ho) (by rw [h2, h3]; exact run_indexAt_sl hu he h0 (by omega) X.w), ?_⟩
    simp only [VRep]
    exact ⟨b, _, rfl, (h6.get i.toNat hr).2⟩
theorem step_len {ty : TypeId} {tys : Array TypeId} {x : Operand} {v : V} {m : Nat} (ho : o.op = .call { callee := .builtin .len, args := #[x], argTypes := tys }) (hty : tys[0]? = some ty) (hx : ev t x = v)
    (hm : (∃ el, P.underlying ty = some (.slice el)) ∧ ((∃ e xs, IsSl v e xs ∧ xs.length = m) ∨ (∃ k q cap e, v = .msl k q m cap e) ∨ ∃ a c, v = .sc (.slice a m c)) ∨ P.underlying ty = some .string ∧ (∃ s, v = .sc (.string s) ∧ s.size = m) ∨ ∃ el, P.underlying ty = some (.array m el)) : StepOK P o t [] [] (.sc (.int .i64 m)) := by
  refine step_value fun n X ρ hR hop hpre => ?_
  have h1 := hop x (by simp [ho, Op.operands, Call.operands])
  rw [hx] at h1
  refine ⟨.int .i64 m, ?_, by simp [VRep]⟩
  rw [exec_builtin ho]
  have hr : (Builtin.len_ tys o.type #[ρ x]).run P X.w = .ok (.int .i64 m) X.w := by
    simp only [Builtin.len_, hty, List.getElem?_toArray, List.getElem?_cons_zero]
    rcases hm with ⟨⟨el, hu⟩, hm⟩ | ⟨hu, s, rfl, rfl⟩ | ⟨el, hu⟩
    · have : ∃ a c, ρ x = .slice a m c := by
        rcases hm with ⟨e, xs, h2, rfl⟩ | ⟨k, q, cap, e, rfl⟩ | ⟨a, c, rfl⟩
        · obtain ⟨a, c, h3, _⟩ := h2.rep h1; exact ⟨a, c, h3⟩
        · simp only [VRep] at h1; exact ⟨_, _, h1.2⟩
        · simp only [VRep] at h1; exact ⟨a, c, h1⟩
      obtain ⟨a, c, h3⟩ := this
      rw [h3]
      simp only [Sem.run_bind, run_under hu, Result.andThen_ok]
      rfl
    · simp only [VRep] at h1
      rw [h1]
      simp only [Sem.run_bind, run_under hu, Result.andThen_ok]
      rfl
    · simp only [Sem.run_bind, run_under hu, Result.andThen_ok]
      cases ρ x <;> rfl
  have e1 : (#[x].map ρ : Array Value) = #[ρ x] := by simp
  rw [e1]
  exact run_val (ρ := ρ) (x := Builtin.len_ tys o.type #[ρ x]) hr
/-! ### Calls -/
theorem callFunc_run {f : FuncId} {fn : Func} (hf : P.funcs[f]? = some fn) (hname : (fn.name == "runtime.NumGoroutine") = false) (hb : fn.body.isSome = true) (args : Array Value) (w : World) : (callFunc f args).run P w = .ok (.enter f args) w := by
  have hb' : fn.body.isNone = false := by cases h : fn.body <;> simp_all
  simp only [callFunc, program, Sem.run_bind]
  show Sem.run P (match P.funcs[f]? with | none => _ | some fn => _) w = _
  rw [hf]
  simp only [hname, hb']
  rfl
theorem rowRep_map {X : Ctx} {ρ : Operand → Value} : ∀ (xs : List Operand) (vs : List V), xs.map (ev t) = vs → (∀ x ∈ xs, VRep X (ev t x) (ρ x)) → RowRep X vs (xs.map ρ)
  | [], vs, h, _ => by simp at h; subst h; simp [RowRep]
  | x :: xs, vs, h, hx => by
    simp at h; subst h
    simp only [List.map_cons, RowRep]
    exact ⟨_, _, rfl, hx x (by simp), rowRep_map xs _ rfl (fun y hy => hx y (List.mem_cons_of_mem _ hy))⟩
/-- A call of a function by its name. -/
theorem step_call {f : FuncId} {fn : Func} {xs : Array Operand} {tys : Array TypeId} {vs : List V} {r : V} (ho : o.op = .call { callee := .value (.func f), args := xs, argTypes := tys }) (hvs : xs.toList.map (ev t) = vs)
    (hf : P.funcs[f]? = some fn) (hname : (fn.name == "runtime.NumGoroutine") = false) (hb : fn.body.isSome = true) (h : Does P f vs pre up r) : StepOK P o t pre up r := by
  intro n X a next Q hR hop hpre hup hk
  have hargs : RowRep X vs ((xs.map a.eval).toList) := by
    rw [Array.toList_map]
    exact rowRep_map _ _ hvs (fun x hx => hop x (by simp [ho, Op.operands, Call.operands]; exact .inr (by simpa using hx)))
  have hrun : (execOp a.eval o).run P X.w = .ok (.enter f (xs.map a.eval)) X.w := by
    rw [exec_call ho]
    have e1 : resolve a.eval { callee := .value (.func f), args := xs, argTypes := tys } o.type = Deferred.ofValue (.func (.func f) #[] #[]) (xs.map a.eval) := rfl
    rw [e1]
    have e2 : (Deferred.ofValue (.func (.func f) #[] #[]) (xs.map a.eval) : Sem Deferred) = pure { target := .fn (.func f) #[], args := #[] ++ xs.map a.eval } := rfl
    rw [e2]
    simp only [Sem.run_bind, Sem.run_pure, Result.andThen_ok, invoke]
    rw [callFunc_run hf hname hb]
    simp
  unfold Oper.wp
  rw [hrun]
  rw [Oper.upon_enter]
  refine (h n X _ hR hargs hpre hup).mono ?_
  rintro e w' ⟨X', u, rfl, h2, h3, h4, h5, rfl⟩
  exact hk X' u h3 h4 h5 h2
end
end Go.Vm

