import Derived.Test.YtdmkhpnjjpeeaaaKcQq
import Derived.Test.YtdmkhpnjjpeeaaaKcVmC
set_option linter.unusedVariables false
set_option linter.unusedSimpArgs false
namespace Go.Vm
section
variable {P : Program} {o : Oper} {t : Nat → V} {pre up : List (Nat × Box)} {val : V}
theorem exec_load {ρ : Operand → Value} {ty : TypeId} {x : Operand} (ho : o.op = .load ty x) : execOp ρ o = (do pure (.value (← Instr.loadAt ty (ρ x)))) := by unfold execOp; rw [ho]
theorem exec_store {ρ : Operand → Value} {ty : TypeId} {x y : Operand} (ho : o.op = .store ty x y) : execOp ρ o = (do Instr.storeAt ty (ρ x) (ρ y); pure .skip) := by unfold execOp; rw [ho]
theorem exec_box {ρ : Operand → Value} {ty : TypeId} {x : Operand} (ho : o.op = .box ty x) : execOp ρ o = (do pure (.value (← Instr.box ty (ρ x)))) := by unfold execOp; rw [ho]
theorem exec_alloc {ρ : Operand → Value} {ty : TypeId} (ho : o.op = .alloc ty) : execOp ρ o = (do pure (.value (← Instr.alloc ty true (.tuple #[])))) := by unfold execOp; rw [ho]
theorem exec_fieldAddr {ρ : Operand → Value} {ty : TypeId} {x : Operand} {f : Nat} (ho : o.op = .fieldAddr ty x f) : execOp ρ o = (do pure (.value (← Instr.fieldAt ty (ρ x) f))) := by unfold execOp; rw [ho]
theorem exec_indexAddr {ρ : Operand → Value} {ty : TypeId} {x y : Operand} (ho : o.op = .indexAddr ty x y) : execOp ρ o = (do pure (.value (← Instr.indexAt ty (ρ x) (ρ y)))) := by unfold execOp; rw [ho]
theorem exec_index {ρ : Operand → Value} {ty : TypeId} {x y : Operand} (ho : o.op = .index ty x y) : execOp ρ o = (do pure (.value (← Instr.index ty (ρ x) (ρ y)))) := by unfold execOp; rw [ho]
theorem exec_build {ρ : Operand → Value} {ty : TypeId} {ps : Array (Nat × Operand)} (ho : o.op = .build ty ps) : execOp ρ o = (do pure (.value (← Instr.build ty (ps.map fun (i, x) => (i, ρ x))))) := by unfold execOp; rw [ho]
theorem exec_buildSlice {ρ : Operand → Value} {ty : TypeId} {m : Nat} {ps : Array (Nat × Operand)} (ho : o.op = .buildSlice ty m ps) : execOp ρ o = (do pure (.value (← Instr.buildSlice ty m (ps.map fun (i, x) => (i, ρ x))))) := by unfold execOp; rw [ho]
theorem exec_makeSlice {ρ : Operand → Value} {ty : TypeId} {x y : Operand} (ho : o.op = .makeSlice ty x y) : execOp ρ o = (do pure (.value (← Instr.makeSlice ty (ρ x) (ρ y)))) := by unfold execOp; rw [ho]
theorem exec_slice {ρ : Operand → Value} {ty : TypeId} {x : Operand} {lo hi mx : Option Operand} (ho : o.op = .slice ty x lo hi mx) : execOp ρ o = (do pure (.value (← Instr.sliceAt ty (ρ x) (lo.map ρ) (hi.map ρ) (mx.map ρ)))) := by unfold execOp; rw [ho]
theorem exec_call {ρ : Operand → Value} {c : Call} (ho : o.op = .call c) : execOp ρ o = (do let d ← resolve ρ c o.type; invoke d.target d.args) := by unfold execOp; rw [ho]
theorem exec_makeFunc {ρ : Operand → Value} {f : Fn} {fs cs : Array Operand} (ho : o.op = .makeFunc f fs cs) : execOp ρ o = (do pure (.value (← Instr.makeFunc f (fs.map ρ) (cs.map ρ)))) := by unfold execOp; rw [ho]
theorem exec_nilCheck {ρ : Operand → Value} {x : Operand} {ad : Addr} (ho : o.op = .nilCheck x) (h : ρ x = .pointer (some ad)) : execOp ρ o = pure (.value (.pointer (some ad))) := by unfold execOp; rw [ho]; simp only [h]
theorem exec_extract {ρ : Operand → Value} {x : Operand} {i : Nat} (ho : o.op = .extract x i) : execOp ρ o = (do pure (.value (← Instr.extract (ρ x) i))) := by unfold execOp; rw [ho]
theorem exec_pick {ρ : Operand → Value} {c a b : Operand} (ho : o.op = .pick c a b) : execOp ρ o = (do pure (.value (if ← asBool (ρ c) then ρ a else ρ b))) := by unfold execOp; rw [ho]
theorem exec_binOp {ρ : Operand → Value} {op : BinOp} {ty ty2 : TypeId} {x y : Operand} (ho : o.op = .binOp op ty x y ty2) : execOp ρ o = (do pure (.value (← (do eqGuard op ty x y (ρ x) (ρ y); binOp op ty (ρ x) (ρ y))))) := by unfold execOp; rw [ho]
theorem exec_unOp {ρ : Operand → Value} {op : UnOp} {ty : TypeId} {x : Operand} (ho : o.op = .unOp op ty x) : execOp ρ o = (do pure (.value (← Op.unary op (ρ x)))) := by unfold execOp; rw [ho]
theorem exec_convert {ρ : Operand → Value} {ty ty2 : TypeId} {x : Operand} (ho : o.op = .convert ty ty2 x) : execOp ρ o = (do pure (.value (← convert ty ty2 (ρ x)))) := by unfold execOp; rw [ho]
def isC : Operand → Bool | .const _ => true | _ => false
theorem exec_builtin {ρ : Operand → Value} {b : Builtin} {xs : Array Operand} {tys : Array TypeId} (ho : o.op = .call { callee := .builtin b, args := xs, argTypes := tys }) : execOp ρ o = builtin b tys o.type (xs.map isC) (xs.map ρ) := by rw [exec_call ho]; rfl
theorem run_val {ρ : Operand → Value} {x : Sem Value} {u : Value} {w w' : World} (h : x.run P w = .ok u w') : (do pure (Next.value (← x)) : Sem Next).run P w = .ok (.value u) w' := by
  rw [Sem.run_bind, h]; rfl
theorem exec_run {ρ : Operand → Value} {x : Sem Value} {u : Value} {w w' : World} (he : execOp ρ o = (do pure (Next.value (← x)))) (h : x.run P w = .ok u w') : (execOp ρ o).run P w = .ok (.value u) w' := by
  rw [he, Sem.run_bind, h]; rfl
theorem step_value (h : ∀ n X (ρ : Operand → Value), R n X → (∀ x ∈ o.op.operands, VRep X (ev t x) (ρ x)) → (∀ p ∈ pre, X.bx p.1 = p.2) → ∃ u, (execOp ρ o).run P X.w = .ok (.value u) X.w ∧ VRep X val u) : StepOK P o t pre [] val := by
  intro n X a next Q hR hop hpre hup hk
  obtain ⟨u, h1, h2⟩ := h n X a.eval hR hop hpre
  unfold Oper.wp
  rw [h1]
  exact hk X u rfl hR (Ext.refl X) h2
theorem step_move {x : Operand} (ho : o.op = .move x) : StepOK P o t [] [] (ev t x) :=
  step_value fun n X ρ hR hop _ => ⟨ρ x, by unfold execOp; rw [ho]; rfl, hop x t_63⟩
theorem step_assign {x : Operand} (ho : o.op = .assign x) : StepOK P o t [] [] (ev t x) :=
  step_value fun n X ρ hR hop _ => ⟨ρ x, by unfold execOp; rw [ho]; rfl, hop x t_63⟩
theorem step_pick {c x y : Operand} {b : Bool} {v : V} (ho : o.op = .pick c x y) (hc : ev t c = .sc (.bool b)) (hv : ev t (if b then x else y) = v) : StepOK P o t [] [] v := by
  refine step_value fun n X ρ hR hop _ => ?_
  have h1 := hop c t_63
  have h2 := hop x t_63
  have h3 := hop y t_63
  rw [hc] at h1
  simp only [VRep] at h1
  refine ⟨if b then ρ x else ρ y, ?_, ?_⟩
  · rw [exec_pick ho, h1]; rfl
  · subst hv
    cases b
    · simpa using h3
    · simpa using h2
theorem step_binOp {op : BinOp} {ty ty2 : TypeId} {x y : Operand} {a b c : Value} (ho : o.op = .binOp op ty x y ty2) (hx : ev t x = .sc a) (hy : ev t y = .sc b)
    (hr : ∀ w, (do eqGuard op ty x y a b; binOp op ty a b : Sem Value).run P w = .ok c w) : StepOK P o t [] [] (.sc c) := by
  refine step_value fun n X ρ hR hop _ => ?_
  have h1 := hop x t_63
  have h2 := hop y t_63
  rw [hx] at h1; rw [hy] at h2
  simp only [VRep] at h1 h2
  refine ⟨c, ?_, by simp [VRep]⟩;exact exec_run (exec_binOp ho) (by rw [h1, h2]; exact hr X.w)
theorem step_unOp {op : UnOp} {ty : TypeId} {x : Operand} {a c : Value} (ho : o.op = .unOp op ty x) (hx : ev t x = .sc a) (hr : ∀ w, (Op.unary op a).run P w = .ok c w) : StepOK P o t [] [] (.sc c) := by
  refine step_value fun n X ρ hR hop _ => ?_
  have h1 := hop x t_63
  rw [hx] at h1
  simp only [VRep] at h1
  refine ⟨c, ?_, by simp [VRep]⟩;exact exec_run (exec_unOp ho) (by rw [h1]; exact hr X.w)
theorem step_convert {ty ty2 : TypeId} {x : Operand} {a c : Value} (ho : o.op = .convert ty ty2 x) (hx : ev t x = .sc a) (hr : ∀ w, (convert ty ty2 a).run P w = .ok c w) : StepOK P o t [] [] (.sc c) := by
  refine step_value fun n X ρ hR hop _ => ?_
  have h1 := hop x t_63
  rw [hx] at h1
  simp only [VRep] at h1
  refine ⟨c, ?_, by simp [VRep]⟩;exact exec_run (exec_convert ho) (by rw [h1]; exact hr X.w)
theorem step_extract {x : Operand} {i : Nat} {vs : List V} {v : V} (ho : o.op = .extract x i) (hx : ev t x = .tup vs) (hv : vs[i]? = some v) : StepOK P o t [] [] v := by
  refine step_value fun n X ρ hR hop _ => ?_
  have h1 := hop x t_63
  rw [hx] at h1
  simp only [VRep] at h1
  obtain ⟨us, h2, h3⟩ := h1
  obtain ⟨u, h4, h5⟩ := RowRep.get i h3 hv
  refine ⟨u, ?_, h5⟩;refine exec_run (exec_extract ho) ?_;simp only [h2, Instr.extract, List.getElem?_toArray, h4]
  rfl
theorem step_nilCheck {x : Operand} {v : V} (ho : o.op = .nilCheck x) (hx : ev t x = v) (hv : (∃ k q, v = .ref k q) ∨ ∃ row, v = .ro row) : StepOK P o t [] [] v := by
  refine step_value fun n X ρ hR hop _ => ?_
  have h1 := hop x t_63
  rw [hx] at h1
  refine ⟨ρ x, ?_, h1⟩;have : ∃ ad, ρ x = .pointer (some ad) := by
    rcases hv with ⟨k, q, rfl⟩ | ⟨row, rfl⟩
    · simp only [VRep] at h1; exact ⟨_, h1.2⟩
    · simp only [VRep] at h1; obtain ⟨b, q, h2, _⟩ := h1; exact ⟨_, h2⟩
  obtain ⟨ad, h2⟩ := this
  rw [exec_nilCheck ho h2, h2]
  rfl
theorem run_under {d : TypeDesc} {ty : TypeId} (h : P.underlying ty = some d) (w : World) : (underlying ty).run P w = .ok d w := run_underlying h w
theorem run_size {m : Nat} {ty : TypeId} (h : (P.info? ty).map (·.size) = some m) (w : World) : (sizeOf ty).run P w = .ok m w := by
  cases hq : P.info? ty with
  | none => simp [hq] at h
  | some i => simp [hq] at h; simp [sizeOf, typeInfo, hq, h]
theorem run_isAgg {d : TypeDesc} {ty : TypeId} (h : P.underlying ty = some d) (w : World) : (isAgg ty).run P w = .ok (aggD d) w := by
  unfold isAgg
  rw [Sem.run_bind, run_under h w]
  cases d <;> rfl
theorem run_zero {z : Value} {ty : TypeId} (h : (P.info? ty).bind (·.zero) = some z) (w : World) : (zeroValue ty).run P w = .ok z w := by
  cases hq : P.info? ty with
  | none => simp [hq] at h
  | some i => simp [hq] at h; simp [zeroValue, typeInfo, hq, h]
theorem cell_some {w : World} {b q : Nat} {us : List Value} {ty : TypeId} {fr : Nat × Nat} (h : w.heap[b]? = some (.cells us.toArray ty fr)) : w.cell? ⟨b, q, none⟩ = us[q]? := by
  rw [cell_of_row w b q _ _ _ h]; simp
theorem addr_add (b q n : Nat) : Addr.add ⟨b, q, none⟩ n = ⟨b, q + n, none⟩ := Addr.add_lit b q n
def V.cs : V → List V
  | .agg cs => cs
  | v => [v]
def V.stor : V → Bool
  | .sc v => oneV v
  | .junk => false
  | .tup _ => false
  | _ => true
theorem rep_one {X : Ctx} {v : V} {u : Value} (h : VRep X v u) (hs : v.stor = true) (hv : ∀ cs, v ≠ .agg cs) : oneV u = true := by
  cases v with
  | junk => cases hs
  | sc v => simp only [VRep] at h; subst h; exact hs
  | ref k q => simp only [VRep] at h; rw [h.2]; rfl
  | ro row => simp only [VRep] at h; obtain ⟨b, q, rfl, _⟩ := h; rfl
  | sl e xs => simp only [VRep] at h; obtain ⟨a, c, rfl, _⟩ := h; rfl
  | fl e xs => simp only [VRep] at h; obtain ⟨a, rfl, _⟩ := h; rfl
  | own e xs k => simp only [VRep] at h; obtain ⟨a, c, rfl, _⟩ := h; rfl
  | msl k q len cap e => simp only [VRep] at h; rw [h.2]; rfl
  | fn f cap => simp only [VRep] at h; obtain ⟨us, rfl, _⟩ := h; rfl
  | gsl k ver q len e => simp only [VRep] at h; obtain ⟨a, c, _, _, _, rfl, _⟩ := h; rfl
  | gref k ver q => simp only [VRep] at h; obtain ⟨ad, _, _, _, rfl, _⟩ := h; rfl
  | agg cs => exact absurd rfl (hv cs)
  | tup vs => cases hs
theorem one_cells {u : Value} (h : oneV u = true) : u.cells = #[u] := by cases u <;> first | rfl | cases h
theorem rep_cells {X : Ctx} {v : V} {u : Value} (h : VRep X v u) (hs : v.stor = true) : ∃ us, u.cells = us.toArray ∧ RowRep X v.cs us ∧ ∀ x ∈ us, oneV x = true := by
  by_cases hv : ∃ cs, v = .agg cs
  · obtain ⟨cs, rfl⟩ := hv
    simp only [VRep] at h
    obtain ⟨us, rfl, h2, h3⟩ := h
    exact ⟨us, rfl, h2, h3⟩
  · have h1 := rep_one h hs (fun cs e => hv ⟨cs, e⟩)
    refine ⟨[u], one_cells h1, ?_, by simpa using h1⟩;have : v.cs = [v] := by cases v <;> first | rfl | exact absurd ⟨_, rfl⟩ hv
    rw [this]
    exact RowRep.one h
theorem step_box {ty : TypeId} {x : Operand} {v : V} {k : Nat} (ho : o.op = .box ty x) (hx : ev t x = v) (hs : v.stor = true) : StepOK P o t [(k, .dead)] [(k, .cells v.cs)] (.ref k 0) := by
  intro n X a next Q hR hop hpre hup hk
  have h1 := hop x t_63
  rw [hx] at h1
  obtain ⟨us, h2, h3, h4⟩ := rep_cells h1 hs
  obtain ⟨X', g1, g2, g3, g4, g5⟩ := new_box (ty := ty) hR (hpre (k, .dead) (by simp)) (hup (k, .cells v.cs) (by simp)) h3 h4
  have he : (execOp a.eval o).run P X.w = .ok (.value (.pointer (some ⟨X.w.heap.size, 0, none⟩))) X'.w := by
    rw [g2]
    refine exec_run (exec_box ho) ?_;simp only [Instr.box, newVar, newRow, newObj, h2]
    rfl
  unfold Oper.wp
  rw [he]
  refine hk X' _ g1 g4 g5 ?_;simp only [VRep];rw [g1, upd_eq, g3];exact ⟨trivial, rfl⟩
theorem rowRep_sc (X : Ctx) : ∀ zs : List Value, RowRep X (zs.map V.sc) zs
  | [] => by simp [RowRep]
  | z :: zs => by simp only [List.map_cons, RowRep]; exact ⟨z, zs, rfl, by simp [VRep], rowRep_sc X zs⟩
theorem step_alloc {ty : TypeId} {z : Value} {zs : List Value} {k : Nat} (ho : o.op = .alloc ty) (hz : (P.info? ty).bind (·.zero) = some z) (hzs : z.cells.toList = zs) (h1 : zs.all oneV = true) : StepOK P o t [(k, .dead)] [(k, .cells (zs.map V.sc))] (.ref k 0) := by
  intro n X a next Q hR hop hpre hup hk
  obtain ⟨X', g1, g2, g3, g4, g5⟩ := new_box (ty := ty) hR (hpre (k, .dead) (by simp)) (hup (k, .cells (zs.map V.sc)) (by simp)) (rowRep_sc X zs) (by simpa [List.all_eq_true] using h1)
  have he : (execOp a.eval o).run P X.w = .ok (.value (.pointer (some ⟨X.w.heap.size, 0, none⟩))) X'.w := by
    rw [g2]
    refine exec_run (exec_alloc ho) ?_;have : z.cells = zs.toArray := by rw [← hzs]
    simp only [Instr.alloc, Sem.run_bind, run_zero hz, newVar, newRow, newObj, Result.andThen_ok, this]
    rfl
  unfold Oper.wp
  rw [he]
  refine hk X' _ g1 g4 g5 ?_;simp only [VRep];rw [g1, upd_eq, g3];exact ⟨trivial, rfl⟩
theorem run_loadOne {ty : TypeId} {d : TypeDesc} {ad : Addr} {u : Value} {w : World} (hd : P.underlying ty = some d) (hd' : aggD d = false) (hc : w.cell? ad = some u) : (loadVar ty ad).run P w = .ok u w := by
  simp [loadVar, Sem.run_bind, run_isAgg hd, hd', load, Sem.run, hc]
theorem run_loadAgg {ty : TypeId} {d : TypeDesc} {ad : Addr} {us : List Value} {w : World} (hd : P.underlying ty = some d) (hd' : aggD d = true) (hs : (P.info? ty).map (·.size) = some us.length) (hc : ∀ j v, us[j]? = some v → w.cell? (ad.add j) = some v) :
    (loadVar ty ad).run P w = .ok (.agg us.toArray) w := by
  simp [loadVar, Sem.run_bind, run_isAgg hd, hd', run_size hs, run_loadCells_list (P := P) w ad us hc]
theorem step_load_one {ty : TypeId} {x : Operand} {k q : Nat} {cs : List V} {v : V} (ho : o.op = .load ty x) (hx : ev t x = .ref k q) (ht : OneT P ty) (hv : cs[q]? = some v) : StepOK P o t [(k, .cells cs)] [] v := by
  refine step_value fun n X ρ hR hop hpre => ?_
  have h1 := hop x t_63
  rw [hx] at h1
  simp only [VRep] at h1
  obtain ⟨us, ty', h2, h3, _⟩ := (hR.box k cs (hpre (k, .cells cs) (by simp))).2
  obtain ⟨u, h4, h5⟩ := RowRep.get q h3 hv
  obtain ⟨⟨d, hd, hd'⟩, _⟩ := ht
  refine ⟨u, ?_, h5⟩;have hc : X.w.cell? ⟨X.bl k, q, none⟩ = some u := by rw [cell_some h2]; exact h4
  exact exec_run (exec_load ho) (by rw [h1.2]; exact run_loadOne hd hd' hc)
theorem step_load_agg {ty : TypeId} {x : Operand} {k q m : Nat} {cs cs' : List V} (ho : o.op = .load ty x) (hx : ev t x = .ref k q) (ht : AggT P ty m) (hv : (cs.drop q).take m = cs') (hl : cs'.length = m) : StepOK P o t [(k, .cells cs)] [] (.agg cs') := by
  refine step_value fun n X ρ hR hop hpre => ?_
  have h1 := hop x t_63
  rw [hx] at h1
  simp only [VRep] at h1
  obtain ⟨us, ty', h2, h3, h4⟩ := (hR.box k cs (hpre (k, .cells cs) (by simp))).2
  obtain ⟨⟨d, hd, hd'⟩, hs⟩ := ht
  have h5 : RowRep X cs' ((us.drop q).take m) := hv ▸ (h3.drop q).take m
  refine ⟨.agg ((us.drop q).take m).toArray, ?_, ?_⟩
  · have hc : ∀ j v, ((us.drop q).take m)[j]? = some v → X.w.cell? ((⟨X.bl k, q, none⟩ : Addr).add j) = some v := by
      intro j v hj
      rw [addr_add, cell_some h2]
      rw [List.getElem?_take] at hj
      split at hj
      · rw [List.getElem?_drop] at hj; exact hj
      · cases hj
    exact exec_run (exec_load ho) (by rw [h1.2]; exact run_loadAgg (us := (us.drop q).take m) hd hd' (by rw [← h5.length, hl]; exact hs) hc)
  · simp only [VRep]
    exact ⟨_, rfl, h5, fun y hy => h4 y (List.mem_of_mem_drop (List.mem_of_mem_take hy))⟩
theorem CellsAt.get {X : Ctx} : ∀ {vs : List V} {b q : Nat} (i : Nat) {v : V}, CellsAt X vs b q → vs[i]? = some v → ∃ u, X.w.cell? ⟨b, q + i, none⟩ = some u ∧ VRep X v u ∧ oneV u = true
  | [], b, q, i, v, h, hi => by simp at hi
  | w :: vs, b, q, i, v, h, hi => by
    simp only [CellsAt] at h
    obtain ⟨⟨u, h1, h2, _, h3⟩, h4⟩ := h
    cases i with
    | zero => simp at hi; subst hi; exact ⟨u, h1, h2, h3⟩
    | succ i =>
      simp at hi
      obtain ⟨u', g1, g2, g3⟩ := CellsAt.get i h4 hi
      exact ⟨u', by rw [show q + (i + 1) = q + 1 + i by omega]; exact g1, g2, g3⟩
theorem CellsAt.row {X : Ctx} : ∀ {vs : List V} {b q : Nat}, CellsAt X vs b q → ∃ us, RowRep X vs us ∧ (∀ j v, us[j]? = some v → X.w.cell? ⟨b, q + j, none⟩ = some v) ∧ ∀ x ∈ us, oneV x = true
  | [], b, q, h => ⟨[], by simp [RowRep], by simp, by simp⟩
  | w :: vs, b, q, h => by
    simp only [CellsAt] at h
    obtain ⟨⟨u, h1, h2, _, h3⟩, h4⟩ := h
    obtain ⟨us, g1, g2, g3⟩ := CellsAt.row h4
    refine ⟨u :: us, by simp only [RowRep]; exact ⟨u, us, rfl, h2, g1⟩, fun j v hj => ?_, ?_⟩
    · cases j with
      | zero => simp at hj; subst hj; exact h1
      | succ j => simp at hj; rw [show q + (j + 1) = q + 1 + j by omega]; exact g2 j v hj
    · intro x hx
      rcases List.mem_cons.1 hx with rfl | hx
      · exact h3
      · exact g3 x hx
theorem step_load_ro {ty : TypeId} {x : Operand} {row : List V} {v : V} (ho : o.op = .load ty x) (hx : ev t x = .ro row) (ht : OneT P ty) (hv : row[0]? = some v) : StepOK P o t [] [] v := by
  refine step_value fun n X ρ hR hop hpre => ?_
  have h1 := hop x t_63
  rw [hx] at h1
  simp only [VRep] at h1
  obtain ⟨b, q, h2, h3⟩ := h1
  obtain ⟨u, h4, h5, _⟩ := h3.get 0 hv
  obtain ⟨⟨d, hd, hd'⟩, _⟩ := ht
  refine ⟨u, ?_, h5⟩;exact exec_run (exec_load ho) (by rw [h2]; exact run_loadOne hd hd' h4)
theorem step_load_ro_agg {ty : TypeId} {x : Operand} {m : Nat} {row row' : List V} (ho : o.op = .load ty x) (hx : ev t x = .ro row) (ht : AggT P ty m) (hv : row.take m = row') (hl : row'.length = m) : StepOK P o t [] [] (.agg row') := by
  refine step_value fun n X ρ hR hop hpre => ?_
  have h1 := hop x t_63
  rw [hx] at h1
  simp only [VRep] at h1
  obtain ⟨b, q, h2, h3⟩ := h1
  obtain ⟨us, g1, g2, g3⟩ := h3.row
  obtain ⟨⟨d, hd, hd'⟩, hs⟩ := ht
  have h5 : RowRep X row' (us.take m) := hv ▸ g1.take m
  refine ⟨.agg (us.take m).toArray, ?_, ?_⟩
  · have hc : ∀ j v, (us.take m)[j]? = some v → X.w.cell? ((⟨b, q, none⟩ : Addr).add j) = some v := by
      intro j v hj
      rw [addr_add]
      rw [List.getElem?_take] at hj
      split at hj
      · exact g2 j v hj
      · cases hj
    exact exec_run (exec_load ho) (by rw [h2]; exact run_loadAgg (us := us.take m) hd hd' (by rw [← h5.length, hl]; exact hs) hc)
  · simp only [VRep]
    exact ⟨_, rfl, h5, fun y hy => g3 y (List.mem_of_mem_take hy)⟩
theorem run_storeCells {b : Nat} : ∀ (vs : List Value) (q i : Nat) (w : World) (us : List Value) (ty : TypeId), w.heap[b]? = some (.cells us.toArray ty (0, 0)) → q + i + vs.length ≤ us.length → (∀ x ∈ vs, oneV x = true) →
    ∃ w', (storeCells ⟨b, q, none⟩ vs i).run P w = .ok () w' ∧ w'.os = w.os ∧ w'.tape = w.tape ∧ w'.output = w.output ∧ w'.heap.size = w.heap.size ∧ (∀ b', b' ≠ b → w'.heap[b']? = w.heap[b']?) ∧
      w'.heap[b]? = some (.cells (us.take (q + i) ++ vs ++ us.drop (q + i + vs.length)).toArray ty (0, 0))
  | [], q, i, w, us, ty, h, hl, h1 => ⟨w, rfl, rfl, rfl, rfl, rfl, fun _ _ => rfl, by rw [h]; simp⟩
  | v :: vs, q, i, w, us, ty, h, hl, h1 => by
    have hlt : q + i < us.length := by simp at hl; omega
    have hc : w.cell? ⟨b, q + i, none⟩ = some us[q + i] := by rw [cell_some h]; exact List.getElem?_eq_getElem hlt
    have hfz : w.frozen? ⟨b, q + i, none⟩ = false := by simp [World.frozen?, h]
    have hv : oneV v = true := h1 v (List.mem_cons_self ..)
    have hh : (w.setCell ⟨b, q + i, none⟩ v).heap[b]? = some (.cells (us.set (q + i) v).toArray ty (0, 0)) := by
      simp [World.setCell, Array.getElem?_modify, h]
    have hne : ∀ b', b' ≠ b → (w.setCell ⟨b, q + i, none⟩ v).heap[b']? = w.heap[b']? := by
      intro b' hb'
      simp only [World.setCell, Array.getElem?_modify]
      rw [if_neg (by intro e; exact hb' e.symm)]
    obtain ⟨w', g1, g2, g3, g4, g5, g6, g7⟩ := run_storeCells vs q (i + 1) (w.setCell ⟨b, q + i, none⟩ v) (us.set (q + i) v) ty hh (by simp at hl ⊢; omega) (fun x hx => h1 x (List.mem_cons_of_mem _ hx))
    refine ⟨w', ?_, g2, g3, g4, by rw [g5]; simp [World.setCell], fun b' hb' => (g6 b' hb').trans (hne b' hb'), ?_⟩
    · unfold storeCells
      rw [Sem.run_bind, addr_add]
      have : (store ⟨b, q + i, none⟩ v).run P w = .ok () (w.setCell ⟨b, q + i, none⟩ v) := by
        unfold store
        cases v <;> first | (cases hv; done) | (simp [Sem.run, hc, hfz])
      rw [this]
      exact g1
    · rw [g7]
      have e1 : (us.set (q + i) v).take (q + (i + 1)) = us.take (q + i) ++ [v] := by
        rw [show q + (i + 1) = q + i + 1 by omega, List.take_add_one, List.take_set_of_le (by omega), List.getElem?_set_self hlt]; rfl
      have e2 : (us.set (q + i) v).drop (q + (i + 1) + vs.length) = us.drop (q + i + (vs.length + 1)) := by
        rw [List.drop_set_of_lt (by omega)]; congr 1; omega
      rw [e1, e2]
      simp
theorem step_store {ty : TypeId} {x y : Operand} {k q m : Nat} {cs cs' : List V} {v : V} (ho : o.op = .store ty x y) (hd : o.dst = none) (hx : ev t x = .ref k q) (hy : ev t y = v) (hs : v.stor = true) (ht : (P.info? ty).map (·.size) = some m) (hm : v.cs.length = m)
    (hl : q + m ≤ cs.length) (hc : cs.take q ++ v.cs ++ cs.drop (q + m) = cs') : StepOK P o t [(k, .cells cs)] [(k, .cells cs')] .junk := by
  intro n X a next Q hR hop hpre hup hk
  have h1 := hop x t_63
  have h2 := hop y t_63
  rw [hx] at h1; rw [hy] at h2
  simp only [VRep] at h1
  obtain ⟨vs, g1, g2, g3⟩ := rep_cells h2 hs
  have hb : X.bx k = .cells cs := hpre (k, .cells cs) (by simp)
  obtain ⟨us, ty', h3, h4, h5⟩ := (hR.box k cs hb).2
  have hvl : vs.length = m := by rw [← g2.length]; exact hm
  have hcl : us.length = cs.length := h4.length.symm
  obtain ⟨w', r1, r2, r3, r4, r5, r6, r7⟩ := run_storeCells (P := P) (b := X.bl k) vs q 0 X.w us ty' h3 (by omega) g3
  have hrun : (execOp a.eval o).run P X.w = .ok .skip w' := by
    rw [exec_store ho, h1.2]
    have hsz : (Array.size (a.eval y).cells) = m := by rw [g1]; simpa using hvl
    simp only [Instr.storeAt, Instr.sureAddr, storeVar, Sem.run_bind, Sem.run_pure, Result.andThen_ok, run_size ht, hsz, ne_eq, not_true_eq_false, if_false]
    rw [g1]
    simp only [r1, Result.andThen_ok]
  have hnew : RowRep X cs' (us.take q ++ vs ++ us.drop (q + m)) := hc ▸ ((h4.take q).append g2).append (h4.drop (q + m))
  have hone : ∀ x ∈ us.take q ++ vs ++ us.drop (q + m), oneV x = true := by
    intro x hx
    rcases List.mem_append.1 hx with hx | hx
    · rcases List.mem_append.1 hx with hx | hx
      · exact h5 x (List.mem_of_mem_take hx)
      · exact g3 x hx
    · exact h5 x (List.mem_of_mem_drop hx)
  obtain ⟨e1, e2⟩ := set_box (w' := w') hR hb r2 r3 r4 r5 r6 ⟨ty', by rw [r7, hvl]; rfl⟩ hnew hone
  unfold Oper.wp
  rw [hrun]
  exact hk _ undef rfl e1 e2 (by simp [VRep])
theorem run_fieldAt {ty : TypeId} {fs : Array Field} {f : Nat} {fd : Field} {b q m : Nat} (hu : P.underlying ty = some (.struct fs)) (hf : fs[f]? = some fd) (hm : (P.info? fd.type).map (·.size) = some (m + 1)) (w : World) :
    (Instr.fieldAt ty (.pointer (some ⟨b, q, none⟩)) f).run P w = .ok (.pointer (some ⟨b, q + fd.offset, none⟩)) w := by
  simp only [Instr.fieldAt, Sem.run_bind, run_under hu, Result.andThen_ok, hf, Instr.sureAddr, Sem.run_pure, fieldPlace, run_size hm, Nat.add_eq_zero_iff, Nat.succ_ne_self, and_false, if_false, addr_add]
theorem step_fieldAddr {ty : TypeId} {x : Operand} {f k q m off : Nat} {fs : Array Field} {fd : Field} (ho : o.op = .fieldAddr ty x f) (hx : ev t x = .ref k q) (hu : P.underlying ty = some (.struct fs)) (hf : fs[f]? = some fd)
    (hm : (P.info? fd.type).map (·.size) = some (m + 1)) (hoff : fd.offset = off) : StepOK P o t [] [] (.ref k (q + off)) := by
  refine step_value fun n X ρ hR hop hpre => ?_
  have h1 := hop x t_63
  rw [hx] at h1
  simp only [VRep] at h1
  subst hoff
  refine ⟨_, exec_run (exec_fieldAddr ho) (by rw [h1.2]; exact run_fieldAt hu hf hm X.w), ?_⟩;simp only [VRep];exact ⟨h1.1, trivial⟩
theorem CellsAt.dropped {X : Ctx} : ∀ {vs : List V} {b q : Nat} (i : Nat), CellsAt X vs b q → CellsAt X (vs.drop i) b (q + i)
  | [], b, q, i, h => by simp [CellsAt]
  | w :: vs, b, q, i, h => by
    cases i with
    | zero => simpa using h
    | succ i =>
      simp only [CellsAt] at h
      have := CellsAt.dropped i h.2
      rw [show q + (i + 1) = q + 1 + i by omega]
      simpa using this
theorem step_fieldAddr_ro {ty : TypeId} {x : Operand} {f m off : Nat} {row row' : List V} {fs : Array Field} {fd : Field} (ho : o.op = .fieldAddr ty x f) (hx : ev t x = .ro row) (hu : P.underlying ty = some (.struct fs)) (hf : fs[f]? = some fd)
    (hm : (P.info? fd.type).map (·.size) = some (m + 1)) (hoff : fd.offset = off) (hr : row.drop off = row') : StepOK P o t [] [] (.ro row') := by
  refine step_value fun n X ρ hR hop hpre => ?_
  have h1 := hop x t_63
  rw [hx] at h1
  simp only [VRep] at h1
  obtain ⟨b, q, h2, h3⟩ := h1
  subst hoff
  refine ⟨_, exec_run (exec_fieldAddr ho) (by rw [h2]; exact run_fieldAt hu hf hm X.w), ?_⟩;simp only [VRep];exact ⟨b, _, rfl, hr ▸ h3.dropped _⟩
def IsSl (v : V) (e : Nat) (xs : List (List V)) : Prop := v = .sl e xs ∨ v = .fl e xs ∨ ∃ k, v = .own e xs k
theorem IsSl.rep {v : V} {e : Nat} {xs : List (List V)} (h : IsSl v e xs) {X : Ctx} {u : Value} (hv : VRep X v u) : ∃ a c, u = .slice a xs.length c ∧ xs.length ≤ c ∧ (xs = [] ∨ ∃ b q, a = some ⟨b, q, none⟩ ∧ RowsAt X e xs b q) := by
  rcases h with rfl | rfl | ⟨k, rfl⟩
  · simpa only [VRep] using hv
  · simp only [VRep] at hv
    obtain ⟨a, h1, h2⟩ := hv
    exact ⟨a, _, h1, Nat.le_refl _, h2⟩
  · simp only [VRep] at hv
    obtain ⟨a, c, h1, h2, h3, _⟩ := hv
    exact ⟨a, c, h1, h2, h3⟩
theorem RowsAt.get {X : Ctx} {e : Nat} : ∀ {xs : List (List V)} {b q : Nat} (i : Nat) {r : List V}, RowsAt X e xs b q → xs[i]? = some r → r.length = e ∧ CellsAt X r b (q + i * e)
  | [], b, q, i, r, h, hi => by simp at hi
  | x :: xs, b, q, i, r, h, hi => by
    simp only [RowsAt] at h
    obtain ⟨h1, h2, h3⟩ := h
    cases i with
    | zero => simp at hi; subst hi; simpa using ⟨h1, h2⟩
    | succ i =>
      simp at hi
      have := RowsAt.get i h3 hi
      rw [show q + (i + 1) * e = q + e + i * e from t_126]
      exact this
theorem run_indexAt_sl {ty el : TypeId} {e : Nat} {kd : IntKind} {i : Int} {b q len c : Nat} (hu : P.underlying ty = some (.slice el)) (he : (P.info? el).map (·.size) = some e) (h0 : 0 ≤ i) (h1 : i < len) (w : World) :
    (Instr.indexAt ty (.slice (some ⟨b, q, none⟩) len c) (.int kd i)).run P w = .ok (.pointer (some ⟨b, q + i.toNat * e, none⟩)) w := by
  simp only [Instr.indexAt, asIntOf, Sem.run_bind, Sem.run_pure, Result.andThen_ok, run_under hu, h0, h1, and_self, if_true, run_size he, addr_add]
theorem step_index {ty el : TypeId} {x y : Operand} {e : Nat} {kd : IntKind} {i : Int} {v : V} {xs : List (List V)} {r : List V} (ho : o.op = .indexAddr ty x y) (hx : ev t x = v) (hv : IsSl v e xs) (hy : ev t y = .sc (.int kd i))
    (hu : P.underlying ty = some (.slice el)) (he : (P.info? el).map (·.size) = some e) (h0 : 0 ≤ i) (hr : xs[i.toNat]? = some r) : StepOK P o t [] [] (.ro r) := by
  refine step_value fun n X ρ hR hop hpre => ?_
  have h1 := hop x t_63
  have h2 := hop y t_63
  rw [hx] at h1; rw [hy] at h2
  simp only [VRep] at h2
  obtain ⟨a, c, h3, h4, h5⟩ := hv.rep h1
  have hi : i.toNat < xs.length := (List.getElem?_eq_some_iff.1 hr).1
  rcases h5 with rfl | ⟨b, q, rfl, h6⟩
  · simp at hi
  · refine ⟨_, exec_run (exec_indexAddr ho) (by rw [h2, h3]; exact run_indexAt_sl hu he h0 (by omega) X.w), ?_⟩
    simp only [VRep]
    exact ⟨b, _, rfl, (h6.get i.toNat hr).2⟩
theorem step_index_arr {ty el : TypeId} {x y : Operand} {e k q len : Nat} {kd : IntKind} {i : Int} (ho : o.op = .indexAddr ty x y) (hx : ev t x = .ref k q) (hy : ev t y = .sc (.int kd i))
    (hu : P.underlying ty = some (.array len el)) (he : (P.info? el).map (·.size) = some e) (h0 : 0 ≤ i) (h1 : i < len) : StepOK P o t [] [] (.ref k (q + i.toNat * e)) := by
  refine step_value fun n X ρ hR hop hpre => ?_
  have g1 := hop x t_63
  have g2 := hop y t_63
  rw [hx] at g1; rw [hy] at g2
  simp only [VRep] at g1 g2
  refine ⟨.pointer (some ⟨X.bl k, q + i.toNat * e, none⟩), exec_run (exec_indexAddr ho) ?_, ?_⟩
  · rw [g1.2, g2]
    simp only [Instr.indexAt, asIntOf, Sem.run_bind, Sem.run_pure, Result.andThen_ok, run_under hu, Instr.sureAddr, h0, h1, and_self, if_true, run_size he, addr_add]
  · simp only [VRep]
    exact ⟨g1.1, trivial⟩
theorem step_index_msl {ty el : TypeId} {x y : Operand} {e k q len cap : Nat} {kd : IntKind} {i : Int} (ho : o.op = .indexAddr ty x y) (hx : ev t x = .msl k q len cap e) (hy : ev t y = .sc (.int kd i))
    (hu : P.underlying ty = some (.slice el)) (he : (P.info? el).map (·.size) = some e) (h0 : 0 ≤ i) (h1 : i < len) : StepOK P o t [] [] (.ref k (q + i.toNat * e)) := by
  refine step_value fun n X ρ hR hop hpre => ?_
  have g1 := hop x t_63
  have g2 := hop y t_63
  rw [hx] at g1; rw [hy] at g2
  simp only [VRep] at g1 g2
  refine ⟨_, exec_run (exec_indexAddr ho) (by rw [g1.2, g2]; exact run_indexAt_sl hu he h0 h1 X.w), ?_⟩;simp only [VRep];exact ⟨g1.1, trivial⟩
theorem step_len {ty : TypeId} {tys : Array TypeId} {x : Operand} {v : V} {m : Nat} (ho : o.op = .call { callee := .builtin .len, args := #[x], argTypes := tys }) (hty : tys[0]? = some ty) (hx : ev t x = v)
    (hm : (∃ el, P.underlying ty = some (.slice el)) ∧ ((∃ e xs, IsSl v e xs ∧ xs.length = m) ∨ (∃ k q cap e, v = .msl k q m cap e) ∨ ∃ a c, v = .sc (.slice a m c)) ∨ P.underlying ty = some .string ∧ (∃ s, v = .sc (.string s) ∧ s.size = m) ∨ ∃ el, P.underlying ty = some (.array m el)) : StepOK P o t [] [] (.sc (.int .i64 m)) := by
  refine step_value fun n X ρ hR hop hpre => ?_
  have h1 := hop x t_82
  rw [hx] at h1
  refine ⟨.int .i64 m, ?_, by simp [VRep]⟩;rw [exec_builtin ho];have hr : (Builtin.len_ tys o.type #[ρ x]).run P X.w = .ok (.int .i64 m) X.w := by
    simp only [Builtin.len_, hty, List.getElem?_toArray, List.getElem?_cons_zero]
    rcases hm with ⟨⟨el, hu⟩, hm⟩ | ⟨hu, s, rfl, rfl⟩ | ⟨el, hu⟩
    · have : ∃ a c, ρ x = .slice a m c := by
        rcases hm with ⟨e, xs, h2, rfl⟩ | ⟨k, q, cap, e, rfl⟩ | ⟨a, c, rfl⟩
        · obtain ⟨a, c, h3, _⟩ := h2.rep h1; exact ⟨a, c, h3⟩
        · simp only [VRep] at h1; exact ⟨_, _, h1.2⟩
        · simp only [VRep] at h1; exact ⟨a, c, h1⟩
      obtain ⟨a, c, h3⟩ := this
      rw [h3]
      simp only [Sem.run_bind, run_under hu, Result.andThen_ok]
      rfl
    · simp only [VRep] at h1
      rw [h1]
      simp only [Sem.run_bind, run_under hu, Result.andThen_ok]
      rfl
    · simp only [Sem.run_bind, run_under hu, Result.andThen_ok]
      cases ρ x <;> rfl
  have e1 : (#[x].map ρ : Array Value) = #[ρ x] := by simp
  rw [e1]
  exact run_val (ρ := ρ) (x := Builtin.len_ tys o.type #[ρ x]) hr
theorem callFunc_run {f : FuncId} {fn : Func} (hf : P.funcs[f]? = some fn) (hname : (fn.name == "runtime.NumGoroutine") = false) (hb : fn.body.isSome = true) (args : Array Value) (w : World) : (callFunc f args).run P w = .ok (.enter f args) w := by
  have hb' : fn.body.isNone = false := by cases h : fn.body <;> simp_all
  simp only [callFunc, program, Sem.run_bind]
  show Sem.run P (match P.funcs[f]? with | none => _ | some fn => _) w = _
  rw [hf]
  simp only [hname, hb']
  rfl
theorem rowRep_map {X : Ctx} {ρ : Operand → Value} : ∀ (xs : List Operand) (vs : List V), xs.map (ev t) = vs → (∀ x ∈ xs, VRep X (ev t x) (ρ x)) → RowRep X vs (xs.map ρ)
  | [], vs, h, _ => by simp at h; subst h; simp [RowRep]
  | x :: xs, vs, h, hx => by
    simp at h; subst h
    simp only [List.map_cons, RowRep]
    exact ⟨_, _, rfl, hx x (by simp), rowRep_map xs _ rfl (fun y hy => hx y (List.mem_cons_of_mem _ hy))⟩
theorem step_call {f : FuncId} {fn : Func} {xs : Array Operand} {tys : Array TypeId} {vs : List V} {r : V} (ho : o.op = .call { callee := .value (.func f), args := xs, argTypes := tys }) (hvs : xs.toList.map (ev t) = vs)
    (hf : P.funcs[f]? = some fn) (hname : (fn.name == "runtime.NumGoroutine") = false) (hb : fn.body.isSome = true) (h : Does P f vs pre up r) : StepOK P o t pre up r := by
  intro n X a next Q hR hop hpre hup hk
  have hargs : RowRep X vs ((xs.map a.eval).toList) := by
    rw [Array.toList_map]
    exact rowRep_map _ _ hvs (fun x hx => hop x (by simp [ho, Op.operands, Call.operands]; exact .inr (by simpa using hx)))
  have hrun : (execOp a.eval o).run P X.w = .ok (.enter f (xs.map a.eval)) X.w := by
    rw [exec_call ho]
    have e1 : resolve a.eval { callee := .value (.func f), args := xs, argTypes := tys } o.type = Deferred.ofValue (.func (.func f) #[] #[]) (xs.map a.eval) := rfl
    rw [e1]
    have e2 : (Deferred.ofValue (.func (.func f) #[] #[]) (xs.map a.eval) : Sem Deferred) = pure { target := .fn (.func f) #[], args := #[] ++ xs.map a.eval } := rfl
    rw [e2]
    simp only [Sem.run_bind, Sem.run_pure, Result.andThen_ok, invoke]
    rw [callFunc_run hf hname hb]
    simp
  unfold Oper.wp
  rw [hrun]
  rw [Oper.upon_enter]
  refine (h n X _ hR hargs hpre hup).mono ?_
  rintro e w' ⟨X', u, rfl, h2, h3, h4, h5, rfl⟩
  exact hk X' u h3 h4 h5 h2
end
end Go.Vm
set_option linter.unusedVariables false
set_option linter.unusedSimpArgs false
namespace Go.Vm
section
variable {P : Program} {o : Oper} {t : Nat → V} {pre up : List (Nat × Box)} {val : V}
theorem RowsAt.flat {X : Ctx} {e : Nat} : ∀ {xs : List (List V)} {b q : Nat}, RowsAt X e xs b q → ∃ us, RowRep X xs.flatten us ∧ us.length = xs.length * e ∧ (∀ j v, us[j]? = some v → X.w.cell? ⟨b, q + j, none⟩ = some v) ∧ ∀ x ∈ us, oneV x = true
  | [], b, q, h => ⟨[], by simp [RowRep], by simp, by simp, by simp⟩
  | r :: rs, b, q, h => by
    simp only [RowsAt] at h
    obtain ⟨h1, h2, h3⟩ := h
    obtain ⟨us, g1, g2, g3⟩ := h2.row
    obtain ⟨us', k1, k2, k3, k4⟩ := RowsAt.flat h3
    have hl : us.length = e := by rw [← g1.length]; exact h1
    refine ⟨us ++ us', by simpa using g1.append k1, ?_, fun j v hj => ?_, ?_⟩
    · simp [hl, k2, Nat.add_mul]; omega
    · by_cases hlt : j < us.length
      · rw [List.getElem?_append_left hlt] at hj; exact g2 j v hj
      · rw [List.getElem?_append_right (by omega)] at hj
        have := k3 _ _ hj
        rw [show q + j = q + e + (j - us.length) by omega]
        exact this
    · intro x hx
      rcases List.mem_append.1 hx with hx | hx
      · exact g3 x hx
      · exact k4 x hx
theorem cellsAt_of {X : Ctx} {b : Nat} : ∀ {vs : List V} {us : List Value} {q : Nat}, RowRep X vs us → (∀ j v, us[j]? = some v → X.w.cell? ⟨b, q + j, none⟩ = some v) → (∀ j, j < us.length → Stb (X.O b) (q + j)) → (∀ x ∈ us, oneV x = true) → CellsAt X vs b q
  | [], us, q, h, hc, hs, h1 => by simp [CellsAt]
  | v :: vs, us, q, h, hc, hs, h1 => by
    simp only [RowRep] at h
    obtain ⟨u, us', rfl, h2, h3⟩ := h
    simp only [CellsAt]
    refine ⟨⟨u, by simpa using hc 0 u rfl, h2, by simpa using hs 0 (by simp), h1 u (List.mem_cons_self ..)⟩, cellsAt_of h3 (fun j v hj => ?_) (fun j hj => ?_) (fun x hx => h1 x (List.mem_cons_of_mem _ hx))⟩
    · rw [show q + 1 + j = q + (j + 1) by omega]; exact hc (j + 1) v (by simpa using hj)
    · rw [show q + 1 + j = q + (j + 1) by omega]; exact hs (j + 1) (by simp; omega)
theorem rowsAt_of {X : Ctx} {b e : Nat} : ∀ {xs : List (List V)} {us : List Value} {q : Nat}, RowRep X xs.flatten us → (∀ r ∈ xs, r.length = e) → (∀ j v, us[j]? = some v → X.w.cell? ⟨b, q + j, none⟩ = some v) → (∀ j, j < us.length → Stb (X.O b) (q + j)) → (∀ x ∈ us, oneV x = true) → RowsAt X e xs b q
  | [], us, q, h, he, hc, hs, h1 => by simp [RowsAt]
  | r :: rs, us, q, h, he, hc, hs, h1 => by
    have hr : r.length = e := he r (List.mem_cons_self ..)
    have hf : (r :: rs).flatten = r ++ rs.flatten := by simp
    rw [hf] at h
    have ha : RowRep X r (us.take e) := by have := h.take e; rwa [← hr, List.take_left, hr] at this
    have hb : RowRep X rs.flatten (us.drop e) := by have := h.drop e; rwa [← hr, List.drop_left, hr] at this
    have hul : e ≤ us.length := by have := h.length; simp at this; omega
    simp only [RowsAt]
    refine ⟨hr, cellsAt_of ha (fun j v hj => ?_) (fun j hj => hs j (by simp at hj; omega)) (fun x hx => h1 x (List.mem_of_mem_take hx)), rowsAt_of hb (fun r' hr' => he r' (List.mem_cons_of_mem _ hr')) (fun j v hj => ?_) (fun j hj => ?_) (fun x hx => h1 x (List.mem_of_mem_drop hx))⟩
    · rw [List.getElem?_take] at hj
      split at hj
      · exact hc j v hj
      · cases hj
    · rw [List.getElem?_drop] at hj
      rw [Nat.add_assoc]
      exact hc _ v hj
    · rw [Nat.add_assoc]
      exact hs _ (by simp at hj; omega)
theorem RowsAt.lens {X : Ctx} {e : Nat} : ∀ {xs : List (List V)} {b q : Nat}, RowsAt X e xs b q → ∀ r ∈ xs, r.length = e
  | [], b, q, h => by simp
  | r :: rs, b, q, h => by
    simp only [RowsAt] at h
    intro r' hr'
    rcases List.mem_cons.1 hr' with rfl | hr'
    · exact h.1
    · exact RowsAt.lens h.2.2 r' hr'
theorem RowsAt.append {X : Ctx} {e : Nat} : ∀ {xs ys : List (List V)} {b q : Nat}, RowsAt X e xs b q → RowsAt X e ys b (q + xs.length * e) → RowsAt X e (xs ++ ys) b q
  | [], ys, b, q, h, g => by simpa using g
  | r :: rs, ys, b, q, h, g => by
    simp only [RowsAt] at h
    simp only [List.cons_append, RowsAt]
    refine ⟨h.1, h.2.1, RowsAt.append h.2.2 ?_⟩;rw [List.length_cons, Nat.add_mul] at g;rw [show q + e + rs.length * e = q + (rs.length * e + 1 * e) by omega];exact g
theorem new_tail {n k m : Nat} {X : Ctx} (h : R n X) (hk : X.bx k = .dead) (hn : k < n) : R n { X with bx := upd X.bx k (.tail m) } ∧ Ext X { X with bx := upd X.bx k (.tail m) } := by
  have he : Ext X { X with bx := upd X.bx k (.tail m) } := by
    refine ⟨fun b q hs => ⟨hs, rfl⟩, fun j hj => ⟨?_, rfl⟩, fun j m' hj => ⟨m', ?_, Nat.le_refl _, fun _ b st arr ty h1 h2 => ⟨h1, arr, h2, rfl⟩⟩, fun b hb => ⟨hb, rfl⟩, gc_same fun j v e rows hj => ?_, rfl, rfl, rfl, Nat.le_refl _⟩
    · have e : j ≠ k := by intro e; subst e; rw [hk] at hj; exact hj
      show (upd X.bx k _ j).is
      rw [upd_ne _ _ _ _ e]; exact hj
    · have e : j ≠ k := by intro e; subst e; rw [hk] at hj; cases hj
      exact (upd_ne _ _ _ _ e).trans hj
    · have e : j ≠ k := by intro e; subst e; rw [hk] at hj; cases hj
      exact ⟨(upd_ne _ _ _ _ e).trans hj, rfl, fun hOj => ⟨hOj, rfl⟩⟩
  have hgb := gbox_same h he fun j v e rows hj => by
    have hj' : upd X.bx k (.tail m) j = .gcells v e rows := hj
    have e : j ≠ k := t_60
    rw [upd_ne _ _ _ _ e] at hj'
    exact ⟨hj', rfl, fun hOj => ⟨hOj, rfl⟩⟩
  have hob := obj_same h he fun j o hj => by
    have hj' : upd X.bx k (.tail m) j = .obj o := hj
    have e : j ≠ k := t_60
    rw [upd_ne _ _ _ _ e] at hj'
    exact ⟨hj', rfl, fun hOj => ⟨hOj, rfl⟩⟩
  refine ⟨⟨fun j hj => (upd_ne _ _ _ _ (by omega)).trans (h.dead j hj), h.free, fun j cs hj => ?_, hgb, hob⟩, he⟩;have e : j ≠ k := by intro e; subst e; have hj' : upd X.bx j (.tail m) j = .cells cs := hj; rw [upd_eq] at hj'; cases hj'
  have hj' : upd X.bx k (.tail m) j = .cells cs := hj
  rw [upd_ne _ _ _ _ e] at hj'
  obtain ⟨h1, us, ty, h2, h3, h4⟩ := h.box j cs hj'
  exact ⟨h1, us, ty, h2, RowRep.mono he _ _ h3, h4⟩
theorem new_grow {n k m st : Nat} {X : Ctx} {cells : Array Value} {ty : TypeId} (h : R n X) (hk : X.bx k = .dead ∨ ∃ m0, X.bx k = .tail m0 ∧ m0 < m) (hn : k < n) (d : Nat) :
    ∃ X', X'.bx = upd X.bx k (.tail m) ∧ X'.w = ({ X.w with drawn := d } : World).alloc (.cells cells ty (0, 0)) ∧ X'.O X.w.heap.size = .grow k st ∧ R n X' ∧ Ext X X' := by
  let X' : Ctx := { O := upd X.O X.w.heap.size (.grow k st), bl := X.bl, bx := upd X.bx k (.tail m), w := ({ X.w with drawn := d } : World).alloc (.cells cells ty (0, 0)) }
  have hfree := h.free X.w.heap.size (Nat.le_refl _)
  have hne : ∀ b, b ≠ X.w.heap.size → X'.w.heap[b]? = X.w.heap[b]? := by
    intro b hb
    show (X.w.heap.push _)[b]? = _
    rw [Array.getElem?_push, if_neg hb]
  have hOne : ∀ b, b ≠ X.w.heap.size → X'.O b = X.O b := fun b hb => upd_ne _ _ _ _ hb
  have he : Ext X X' := by
    refine ⟨fun b q hs => ?_, fun j hj => ⟨?_, rfl⟩, fun j m1 hj => ?_, fun b hb => ?_, gc_same fun j v e rows hj => ?_, rfl, rfl, rfl, by show _ ≤ (X.w.heap.push _).size; simp⟩
    · have : b ≠ X.w.heap.size := by intro e; subst e; rw [hfree] at hs; exact hs
      rw [hOne b this]
      exact ⟨hs, World.cell?_of_block (w := X.w) (a := ⟨b, q, none⟩) (hne b this)⟩
    · have e : j ≠ k := by intro e; subst e; rcases hk with hk | ⟨m0, hk, _⟩ <;> (rw [hk] at hj; exact hj)
      show (upd X.bx k _ j).is
      rw [upd_ne _ _ _ _ e]; exact hj
    · by_cases e : j = k
      · subst e
        rcases hk with hk | ⟨m0, hk, hlt⟩
        · rw [hk] at hj; cases hj
        · rw [hk] at hj; cases hj
          exact ⟨m, upd_eq _ _ _, by omega, fun hm => by omega⟩
      · refine ⟨m1, (upd_ne _ _ _ _ e).trans hj, Nat.le_refl _, fun _ b st arr ty h1 h2 => ?_⟩
        have : b ≠ X.w.heap.size := by intro e; subst e; rw [hfree] at h1; cases h1
        exact ⟨(hOne b this).trans h1, arr, (hne b this).trans h2, rfl⟩
    · have : b ≠ X.w.heap.size := by intro e; subst e; rw [hfree] at hb; cases hb
      rw [hOne b this]
      exact ⟨hb, hne b this⟩
    · have e : j ≠ k := by intro e; subst e; rcases hk with hk | ⟨m0, hk, _⟩ <;> (rw [hk] at hj; cases hj)
      refine ⟨(upd_ne _ _ _ _ e).trans hj, rfl, fun hOj => ?_⟩;have : X.bl j ≠ X.w.heap.size := t_122;exact ⟨(hOne _ this).trans hOj, hne _ this⟩
  have hgb := gbox_same h he fun j v e rows hj => by
    have hj' : upd X.bx k (.tail m) j = .gcells v e rows := hj
    have e : j ≠ k := t_60
    rw [upd_ne _ _ _ _ e] at hj'
    refine ⟨hj', rfl, fun hOj => ?_⟩;have : X.bl j ≠ X.w.heap.size := t_122;exact ⟨(hOne _ this).trans hOj, hne _ this⟩
  have hob := obj_same h he fun j o hj => by
    have hj' : upd X.bx k (.tail m) j = .obj o := hj
    have e : j ≠ k := t_60
    rw [upd_ne _ _ _ _ e] at hj'
    refine ⟨hj', rfl, fun hOj => ?_⟩;have : X.bl j ≠ X.w.heap.size := t_122;exact ⟨(hOne _ this).trans hOj, hne _ this⟩
  refine ⟨X', rfl, rfl, upd_eq _ _ _, ⟨fun j hj => (upd_ne _ _ _ _ (by omega)).trans (h.dead j hj), fun b hb => ?_, fun j cs1 hj => ?_, hgb, hob⟩, he⟩
  · have hb' : (X.w.heap.push (Obj.cells cells ty (0, 0))).size ≤ b := hb
    rw [Array.size_push] at hb'
    rw [hOne b (by omega)]
    exact h.free b (by omega)
  · have e : j ≠ k := by intro e; subst e; have hj' : upd X.bx j (.tail m) j = .cells cs1 := hj; rw [upd_eq] at hj'; cases hj'
    have hj' : upd X.bx k (.tail m) j = .cells cs1 := hj
    rw [upd_ne _ _ _ _ e] at hj'
    obtain ⟨h1, us1, ty1, h2, h3, h4⟩ := h.box j cs1 hj'
    have : X.bl j ≠ X.w.heap.size := by intro e2; rw [e2] at h1; rw [hfree] at h1; cases h1
    show X'.O (X.bl j) = _ ∧ _
    rw [hOne _ this]
    exact ⟨h1, us1, ty1, (hne _ this).trans h2, RowRep.mono he _ _ h3, h4⟩
theorem grow_in {n k m m0 st st' b : Nat} {X : Ctx} {w' : World} {us us' : List Value} {ty : TypeId} (h : R n X) (hk : X.bx k = .tail m0) (hm : m0 < m) (hO : X.O b = .grow k st) (hst : st ≤ st') (hh : X.w.heap[b]? = some (.cells us.toArray ty (0, 0)))
    (hos : w'.os = X.w.os) (htape : w'.tape = X.w.tape) (hout : w'.output = X.w.output) (hsz : w'.heap.size = X.w.heap.size)
    (hne : ∀ b', b' ≠ b → w'.heap[b']? = X.w.heap[b']?) (hnew : w'.heap[b]? = some (.cells us'.toArray ty (0, 0))) (hsame : ∀ j, j < st → us'[j]? = us[j]?) :
    R n { X with O := upd X.O b (.grow k st'), bx := upd X.bx k (.tail m), w := w' } ∧ Ext X { X with O := upd X.O b (.grow k st'), bx := upd X.bx k (.tail m), w := w' } := by
  have hOne : ∀ b', b' ≠ b → upd X.O b (.grow k st') b' = X.O b' := fun b' hb => upd_ne _ _ _ _ hb
  have hkn : k < n := by
    apply Nat.lt_of_not_le
    intro hn
    rw [h.dead k hn] at hk; cases hk
  have he : Ext X { X with O := upd X.O b (.grow k st'), bx := upd X.bx k (.tail m), w := w' } := by
    refine ⟨fun b' q hs => ?_, fun j hj => ⟨?_, rfl⟩, fun j m1 hj => ?_, fun b' hb => ?_, gc_same fun j v e rows hj => ?_, hos, htape, hout, by show _ ≤ w'.heap.size; omega⟩
    · by_cases e : b' = b
      · subst e
        rw [hO] at hs
        have hq : q < st := hs
        refine ⟨by show Stb (upd X.O b' _ b') q; rw [upd_eq]; show q < st'; omega, ?_⟩;show w'.cell? _ = _;rw [cell_some hnew, cell_some hh]; exact hsame q hq
      · refine ⟨by show Stb (upd X.O b _ b') q; rw [hOne b' e]; exact hs, World.cell?_of_block (w := X.w) (a := ⟨b', q, none⟩) (hne b' e)⟩
    · have e : j ≠ k := by intro e; subst e; rw [hk] at hj; exact hj
      show (upd X.bx k _ j).is
      rw [upd_ne _ _ _ _ e]; exact hj
    · by_cases e : j = k
      · subst e
        rw [hk] at hj; cases hj
        exact ⟨m, upd_eq _ _ _, by omega, fun hm => by omega⟩
      · refine ⟨m1, (upd_ne _ _ _ _ e).trans hj, Nat.le_refl _, fun _ b' st arr ty h1 h2 => ?_⟩
        have : b' ≠ b := by intro e2; subst e2; rw [hO] at h1; cases h1; exact e rfl
        exact ⟨(hOne b' this).trans h1, arr, (hne b' this).trans h2, rfl⟩
    · have : b' ≠ b := by intro e; subst e; rw [hO] at hb; cases hb
      exact ⟨(hOne b' this).trans hb, hne b' this⟩
    · have e : j ≠ k := by intro e; subst e; rw [hk] at hj; cases hj
      refine ⟨(upd_ne _ _ _ _ e).trans hj, rfl, fun hOj => ?_⟩;have : X.bl j ≠ b := by intro e2; rw [e2, hO] at hOj; cases hOj
      exact ⟨(hOne _ this).trans hOj, hne _ this⟩
  have hgb := gbox_same h he fun j v e rows hj => by
    have hj' : upd X.bx k (.tail m) j = .gcells v e rows := hj
    have e : j ≠ k := t_60
    rw [upd_ne _ _ _ _ e] at hj'
    refine ⟨hj', rfl, fun hOj => ?_⟩;have : X.bl j ≠ b := by intro e2; rw [e2, hO] at hOj; cases hOj
    exact ⟨(hOne _ this).trans hOj, hne _ this⟩
  have hob := obj_same h he fun j o hj => by
    have hj' : upd X.bx k (.tail m) j = .obj o := hj
    have e : j ≠ k := t_60
    rw [upd_ne _ _ _ _ e] at hj'
    refine ⟨hj', rfl, fun hOj => ?_⟩;have : X.bl j ≠ b := by intro e2; rw [e2, hO] at hOj; cases hOj
    exact ⟨(hOne _ this).trans hOj, hne _ this⟩
  refine ⟨⟨fun j hj => (upd_ne _ _ _ _ (by omega)).trans (h.dead j hj), fun b' hb => ?_, fun j cs1 hj => ?_, hgb, hob⟩, he⟩
  · have hb' : w'.heap.size ≤ b' := hb
    have : b' ≠ b := by
      intro e; subst e
      have := h.free b' (by omega)
      rw [hO] at this; cases this
    exact (hOne b' this).trans (h.free b' (by omega))
  · have e : j ≠ k := by intro e; subst e; have hj' : upd X.bx j (.tail m) j = .cells cs1 := hj; rw [upd_eq] at hj'; cases hj'
    have hj' : upd X.bx k (.tail m) j = .cells cs1 := hj
    rw [upd_ne _ _ _ _ e] at hj'
    obtain ⟨h1, us1, ty1, h2, h3, h4⟩ := h.box j cs1 hj'
    have : X.bl j ≠ b := by intro e2; rw [e2] at h1; rw [hO] at h1; cases h1
    exact ⟨(hOne _ this).trans h1, us1, ty1, (hne _ this).trans h2, RowRep.mono he _ _ h3, h4⟩
def Gives (v : V) (e : Nat) (ys : List (List V)) (pre : List (Nat × Box)) : Prop := ∀ (P : Program) n X u, R n X → VRep X v u → (∀ p ∈ pre, X.bx p.1 = p.2) →
  (∀ w, (Builtin.lenOf u).run P w = .ok ys.length w) ∧ (∀ r ∈ ys, r.length = e) ∧ ∃ us, RowRep X ys.flatten us ∧ us.length = ys.length * e ∧ (∀ x ∈ us, oneV x = true) ∧ (∀ d j, j ≤ ys.length → (Builtin.firstCells e j u).run P { X.w with drawn := d } = .ok (us.take (j * e)).toArray { X.w with drawn := d })
theorem take_all {us : List Value} {m e : Nat} (h : us.length = m * e) : us.take (m * e) = us := List.take_of_length_le (by omega)
theorem gives_sl {v : V} {e : Nat} {ys : List (List V)} (h : IsSl v e ys) : Gives v e ys [] := by
  intro P n X u hR hv _
  obtain ⟨a, c, rfl, h1, h2⟩ := h.rep hv
  refine ⟨fun w => rfl, ?_, ?_⟩
  · rcases h2 with rfl | ⟨b, q, rfl, h3⟩
    · simp
    · exact h3.lens
  · rcases h2 with rfl | ⟨b, q, rfl, h3⟩
    · refine ⟨[], by simp [RowRep], by simp, by simp, fun d j hj => ?_⟩
      have hj0 : j = 0 := by simpa using hj
      subst hj0
      cases a with
      | none => simp [Builtin.firstCells]
      | some a => simp [Builtin.firstCells, loadCells, loadCellsFrom]
    · obtain ⟨us, g1, g2, g3, g4⟩ := h3.flat
      refine ⟨us, g1, g2, g4, fun d j hj => ?_⟩;have := run_loadCells_list (P := P) { X.w with drawn := d } ⟨b, q, none⟩ (us.take (j * e)) (fun i v hi => by
        rw [addr_add]
        rw [List.getElem?_take] at hi
        split at hi
        · exact g3 i v hi
        · cases hi)
      have hl : (us.take (j * e)).length = j * e := by
        rw [List.length_take, g2]
        have := Nat.mul_le_mul_right e hj
        omega
      rw [hl] at this
      exact this
theorem growBy_le : ∀ (r c newLen : Nat), c ≤ 2 * newLen + 512 → Builtin.growBy newLen r c ≤ 2 * newLen + 512
  | 0, c, newLen, h => h
  | r + 1, c, newLen, h => by
    unfold Builtin.growBy
    split
    · exact h
    · exact growBy_le r _ newLen (by omega)
theorem nextslicecap_le (need cap : Nat) (h : cap < need) : Builtin.nextslicecap need cap ≤ 2 * need + 512 := by
  unfold Builtin.nextslicecap
  split
  · omega
  · split
    · omega
    · exact growBy_le 4 cap need (by omega)
structure ElemT (P : Program) (el : TypeId) (e : Nat) : Prop where
  size : (P.info? el).map (·.size) = some e
  zero : ∃ z, (P.info? el).bind (·.zero) = some z ∧ z.cells.size = e
  bytes : ∃ i, P.info? el = some i ∧ i.bytes ≤ 4096
theorem zeroCells_size (z : Array Value) (n : Nat) : (Builtin.zeroCells z n).size = n * z.size := by simp [Builtin.zeroCells]
theorem run_append_new {ty el ty2 : TypeId} {tys : Array TypeId} {e : Nat} {w : World} {a : Option Addr} {len cap n : Nat} {u : Value} {old new : List Value} (h0 : tys[0]? = some ty) (h1 : tys[1]? = some ty2) (hu : P.underlying ty = some (.slice el)) (hu2 : ∃ d, P.underlying ty2 = some d ∧ ∀ k, d ≠ .int k) (he : ElemT P el e)
    (hl : ∀ w, (Builtin.lenOf u).run P w = .ok n w) (hlt : cap < len + n) (hb : len + n ≤ 1073741824) (ty0 : TypeId)
    (ho : ∀ d, (Builtin.firstCells e len (.slice a len cap)).run P { w with drawn := d } = .ok old.toArray { w with drawn := d }) (hn : ∀ d, (Builtin.firstCells e n u).run P { w with drawn := d } = .ok new.toArray { w with drawn := d }) :
    ∃ d c rest, len + n ≤ c ∧ rest.length = (c - (len + n)) * e ∧ (Builtin.append_ tys ty0 #[.slice a len cap, u]).run P w = .ok (.slice (some ⟨w.heap.size, 0, none⟩) (len + n) c) (({ w with drawn := d } : World).alloc (.cells (old ++ new ++ rest).toArray el (0, 0))) := by
  obtain ⟨hs, ⟨z, hz, hzs⟩, i, hi, hib⟩ := he
  obtain ⟨d2, hu2, hnint⟩ := hu2
  have hti : ∀ w, (typeInfo el).run P w = .ok i w := fun w => by simp [typeInfo, hi]
  have hbnd : Builtin.nextslicecap (len + n) cap * i.bytes ≤ 2 ^ 48 := by
    have h2 := nextslicecap_le (len + n) cap hlt
    calc Builtin.nextslicecap (len + n) cap * i.bytes ≤ (2 * (len + n) + 512) * 4096 := Nat.mul_le_mul h2 hib
      _ ≤ 2 ^ 48 := by omega
  let q : Question := .appendCap (len + n) cap el
  let c := q.cut (w.tape w.drawn q)
  have hc : len + n ≤ c := by show len + n ≤ (len + n) + _ % _; omega
  refine ⟨w.drawn + 1, c, (Builtin.zeroCells z.cells (c - (len + n))).toList, hc, by simp [zeroCells_size, hzs], ?_⟩;have hchoose : (choose q).run P w = .ok c { w with drawn := w.drawn + 1 } := by simp [choose, Sem.run, q, Question.forced, c]
  have hz0 : (match d2 with | .int _ => true | _ => false) = false := by cases d2 <;> first | rfl | exact absurd rfl (hnint _)
  have hroom : ∀ m w, (askRoom m).run P w = .ok () w := by intro m w; unfold askRoom; split <;> rfl
  have hnle : ¬ len + n ≤ cap := by omega
  have hi0 : ¬ (((len + n : Nat) : Int) > IntKind.i64.max ∧ (False ∨ i.bytes = 0)) := by rw [IntKind.max_i64]; omega
  unfold Builtin.append_
  simp only [h0, h1, List.getElem?_toArray, List.getElem?_cons_zero, List.getElem?_cons_succ, Sem.run_bind, run_under hu, run_under hu2, Result.andThen_ok, run_size hs, Sem.run_pure, hz0, Bool.false_eq_true, if_false, hl, hnle, hti, hi0, Bool.not_false, if_true]
  rw [if_neg (by omega)]
  simp only [Sem.run_bind, hti, Result.andThen_ok]
  rw [show (Question.appendCap (len + n) cap el) = q from rfl, hchoose]
  simp only [Result.andThen_ok, hroom, ho, hn, run_zero hz, newRow, newObj, Sem.run_bind]
  have e1 : (old ++ new ++ (Builtin.zeroCells z.cells (c - (len + n))).toList).toArray = old.toArray ++ new.toArray ++ Builtin.zeroCells z.cells (c - (len + n)) := by simp
  rw [e1]
  rfl
theorem run_append_room {ty el ty2 : TypeId} {tys : Array TypeId} {e : Nat} {w w' : World} {a : Option Addr} {len cap n : Nat} {u : Value} {new : List Value} (h0 : tys[0]? = some ty) (h1 : tys[1]? = some ty2) (hu : P.underlying ty = some (.slice el)) (hu2 : ∃ d, P.underlying ty2 = some d ∧ ∀ k, d ≠ .int k) (he : (P.info? el).map (·.size) = some e)
    (hl : ∀ w, (Builtin.lenOf u).run P w = .ok n w) (hle : len + n ≤ cap) (ty0 : TypeId) (hn : (Builtin.firstCells e n u).run P w = .ok new.toArray w)
    (hst : match a with | some a => (storeCells (a.add (len * e)) new).run P w = .ok () w' | none => w' = w) :
    (Builtin.append_ tys ty0 #[.slice a len cap, u]).run P w = .ok (.slice a (len + n) cap) w' := by
  obtain ⟨d2, hu2, hnint⟩ := hu2
  have hz0 : (match d2 with | .int _ => true | _ => false) = false := by cases d2 <;> first | rfl | exact absurd rfl (hnint _)
  unfold Builtin.append_
  simp only [h0, h1, List.getElem?_toArray, List.getElem?_cons_zero, List.getElem?_cons_succ, Sem.run_bind, run_under hu, run_under hu2, Result.andThen_ok, run_size he, Sem.run_pure, hz0, Bool.false_eq_true, if_false, hl, hle, Bool.not_false, if_true, hn]
  cases a with
  | none => simp only at hst; subst hst; rfl
  | some a => simp only at hst; simp only [hst, Sem.run_bind, Result.andThen_ok, Sem.run_pure]
theorem stb_new {X X' : Ctx} {k st b : Nat} {us rest : List Value} {ty : TypeId} (hO : X'.O b = .grow k st) (hh : X'.w.heap[b]? = some (.cells (us ++ rest).toArray ty (0, 0))) (hst : st = us.length) {e : Nat} {xs : List (List V)} (hr : RowRep X' xs.flatten us) (hl : ∀ r ∈ xs, r.length = e) (h1 : ∀ x ∈ us, oneV x = true) : RowsAt X' e xs b 0 := by
  refine rowsAt_of hr hl (fun j v hj => ?_) (fun j hj => by rw [hO]; show 0 + j < st; omega) h1;rw [Nat.zero_add, cell_some hh, List.getElem?_append_left (List.getElem?_eq_some_iff.1 hj).1];exact hj
theorem flat_len {e : Nat} : ∀ {xs : List (List V)}, (∀ r ∈ xs, r.length = e) → xs.flatten.length = xs.length * e
  | [], h => by simp
  | r :: rs, h => by
    have := flat_len (e := e) (xs := rs) (fun r' hr' => h r' (List.mem_cons_of_mem _ hr'))
    have h2 := h r (List.mem_cons_self ..)
    rw [List.flatten_cons, List.length_append, this, h2, List.length_cons, Nat.add_mul]
    omega
theorem append_realloc {ty el ty2 : TypeId} {tys : Array TypeId} {e n k : Nat} {X : Ctx} {a : Option Addr} {cap : Nat} {u : Value} {xs ys : List (List V)} (hR : R n X) (hk : X.bx k = .dead ∨ ∃ m0, X.bx k = .tail m0 ∧ m0 < xs.length + ys.length) (hkn : k < n)
    (h0 : tys[0]? = some ty) (h1 : tys[1]? = some ty2) (hu : P.underlying ty = some (.slice el)) (hu2 : ∃ d, P.underlying ty2 = some d ∧ ∀ k, d ≠ .int k) (he : ElemT P el e)
    (hxs : xs = [] ∨ ∃ b q, a = some ⟨b, q, none⟩ ∧ RowsAt X e xs b q) (hl : ∀ w, (Builtin.lenOf u).run P w = .ok ys.length w) (hyl : ∀ r ∈ ys, r.length = e) (hlt : cap < xs.length + ys.length) (hb : xs.length + ys.length ≤ 1073741824) (ty0 : TypeId)
    {new : List Value} (hnr : RowRep X ys.flatten new) (hnl : new.length = ys.length * e) (hn1 : ∀ x ∈ new, oneV x = true) (hn : ∀ d, (Builtin.firstCells e ys.length u).run P { X.w with drawn := d } = .ok new.toArray { X.w with drawn := d }) :
    ∃ X' u', (Builtin.append_ tys ty0 #[.slice a xs.length cap, u]).run P X.w = .ok u' X'.w ∧ X'.bx = upd X.bx k (.tail (xs.length + ys.length)) ∧ R n X' ∧ Ext X X' ∧ VRep X' (.own e (xs ++ ys) k) u' := by
  have hold : ∃ old, RowRep X xs.flatten old ∧ old.length = xs.length * e ∧ (∀ x ∈ old, oneV x = true) ∧ (∀ r ∈ xs, r.length = e) ∧ ∀ d, (Builtin.firstCells e xs.length (.slice a xs.length cap)).run P { X.w with drawn := d } = .ok old.toArray { X.w with drawn := d } := by
    rcases hxs with rfl | ⟨b, q, rfl, h3⟩
    · refine ⟨[], by simp [RowRep], by simp, by simp, by simp, fun d => ?_⟩
      cases a with
      | none => rfl
      | some a => simp [Builtin.firstCells, loadCells, loadCellsFrom]
    · obtain ⟨us, g1, g2, g3, g4⟩ := h3.flat
      refine ⟨us, g1, g2, g4, h3.lens, fun d => ?_⟩;have := run_loadCells_list (P := P) { X.w with drawn := d } ⟨b, q, none⟩ us (fun j v hj => by rw [addr_add]; exact g3 j v hj);rw [g2] at this;exact this
  obtain ⟨old, o1, o2, o3, o4, o5⟩ := hold
  obtain ⟨d, c, rest, hc, hrl, hrun⟩ := run_append_new (P := P) (w := X.w) h0 h1 hu hu2 he hl hlt hb ty0 o5 hn
  obtain ⟨X', x1, x2, x3, x4, x5⟩ := new_grow (k := k) (m := xs.length + ys.length) (st := (xs.length + ys.length) * e) (cells := (old ++ new ++ rest).toArray) (ty := el) hR hk hkn d
  have hh : X'.w.heap[X.w.heap.size]? = some (.cells ((old ++ new) ++ rest).toArray el (0, 0)) := by
    rw [x2]
    show (X.w.heap.push _)[X.w.heap.size]? = _
    simp
  have hrr : RowRep X' (xs ++ ys).flatten (old ++ new) := by
    rw [List.flatten_append]
    exact RowRep.mono x5 _ _ (o1.append hnr)
  have h11 : ∀ x ∈ old ++ new, oneV x = true := fun x hx => (List.mem_append.1 hx).elim (o3 x) (hn1 x)
  have hll : ∀ r ∈ xs ++ ys, r.length = e := fun r hr => (List.mem_append.1 hr).elim (o4 r) (hyl r)
  have hrows := stb_new (X := X) x3 hh (by rw [List.length_append, o2, hnl, Nat.add_mul]) hrr hll h11
  refine ⟨X', _, by rw [hrun, ← x2], x1, x4, x5, ?_⟩;simp only [VRep];refine ⟨some ⟨X.w.heap.size, 0, none⟩, c, by rw [List.length_append], by rw [List.length_append]; exact hc, .inr ⟨_, _, rfl, hrows⟩, xs.length + ys.length, by rw [x1, upd_eq], Nat.le_of_eq List.length_append, fun _ => .inr ?_⟩;refine ⟨X.w.heap.size, 0, _, _, el, rfl, x3, t_119, hh, ?_⟩;simp only [List.size_toArray, List.length_append, o2, hnl, hrl];rw [← Nat.add_mul, ← Nat.add_mul];rw [show xs.length + ys.length + (c - (xs.length + ys.length)) = c by omega]
  omega
theorem step_append_new {ty el ty2 : TypeId} {tys : Array TypeId} {e k : Nat} {x y : Operand} {vx vy : V} {xs ys : List (List V)} (ho : o.op = .call { callee := .builtin .append, args := #[x, y], argTypes := tys })
    (h0 : tys[0]? = some ty) (h1 : tys[1]? = some ty2) (hu : P.underlying ty = some (.slice el)) (hu2 : ∃ d, P.underlying ty2 = some d ∧ ∀ k, d ≠ .int k) (he : ElemT P el e)
    (hx : ev t x = vx) (hvx : vx = .fl e xs ∨ (vx = .sc (.slice none 0 0) ∧ xs = [])) (hy : ev t y = vy) (hvy : Gives vy e ys pre) (hb : xs.length + ys.length ≤ 1073741824) :
    StepOK P o t ((k, .dead) :: pre) [(k, .tail (xs ++ ys).length)] (.own e (xs ++ ys) k) := by
  rw [List.length_append]
  intro n X a next Q hR hop hpre hup hk
  have g1 := hop x t_82
  have g2 := hop y t_82
  rw [hx] at g1; rw [hy] at g2
  have hkd : X.bx k = .dead := hpre (k, .dead) (by simp)
  have hkn : k < n := hup (k, .tail (xs.length + ys.length)) (by simp)
  obtain ⟨l1, l2, new, l3, l4, l5, l6⟩ := hvy P n X _ hR g2 (fun p hp => hpre p (List.mem_cons_of_mem _ hp))
  have hsx : ∃ ad, a.eval x = .slice ad xs.length xs.length ∧ (xs = [] ∨ ∃ b q, ad = some ⟨b, q, none⟩ ∧ RowsAt X e xs b q) := by
    rcases hvx with rfl | ⟨rfl, rfl⟩
    · simp only [VRep] at g1; exact g1
    · simp only [VRep] at g1; exact ⟨none, g1, .inl rfl⟩
  obtain ⟨ad, s1, s2⟩ := hsx
  have hex : execOp a.eval o = (do pure (.value (← Builtin.append_ tys o.type #[a.eval x, a.eval y]))) := by
    rw [exec_builtin ho]
    have e1 : (#[x, y].map a.eval : Array Value) = #[a.eval x, a.eval y] := by simp
    rw [e1]; rfl
  have key : ∃ X' u', (Builtin.append_ tys o.type #[a.eval x, a.eval y]).run P X.w = .ok u' X'.w ∧ X'.bx = upd X.bx k (.tail (xs.length + ys.length)) ∧ R n X' ∧ Ext X X' ∧ VRep X' (.own e (xs ++ ys) k) u' := by
    rw [s1]
    by_cases hys : ys.length = 0
    · have hy0 : ys = [] := List.length_eq_zero_iff.1 hys
      subst hy0
      obtain ⟨t1, t2⟩ := new_tail (m := xs.length + 0) hR hkd hkn
      have hnew : new = [] := t_113
      subst hnew
      refine ⟨{ X with bx := upd X.bx k (.tail (xs.length + 0)) }, _, run_append_room (w' := X.w) h0 h1 hu hu2 he.size l1 (by simp) o.type t_121 ?_, rfl, t1, t2, ?_⟩
      · cases ad with
        | none => rfl
        | some ad => simp [storeCells]
      · simp only [VRep, List.append_nil, List.length_nil, Nat.add_zero]
        refine ⟨ad, xs.length, rfl, Nat.le_refl _, s2.imp id fun ⟨b, q, h3, h4⟩ => ⟨b, q, h3, RowsAt.mono t2 e xs b q h4⟩, xs.length, by simp [upd_eq], Nat.le_refl _, fun _ => .inl rfl⟩
    · exact append_realloc hR (.inl hkd) hkn h0 h1 hu hu2 he s2 l1 l2 (by omega) hb o.type l3 l4 l5 (fun d => t_125)
  obtain ⟨X', u', k1, k2, k3, k4, k5⟩ := key
  unfold Oper.wp
  rw [exec_run hex k1]
  exact hk X' u' k2 k3 k4 k5
theorem step_append_own {ty el ty2 : TypeId} {tys : Array TypeId} {e k : Nat} {x y : Operand} {vy : V} {xs ys : List (List V)} (ho : o.op = .call { callee := .builtin .append, args := #[x, y], argTypes := tys })
    (h0 : tys[0]? = some ty) (h1 : tys[1]? = some ty2) (hu : P.underlying ty = some (.slice el)) (hu2 : ∃ d, P.underlying ty2 = some d ∧ ∀ k, d ≠ .int k) (he : ElemT P el e)
    (hx : ev t x = .own e xs k) (hy : ev t y = vy) (hvy : Gives vy e ys pre) (hb : xs.length + ys.length ≤ 1073741824) :
    StepOK P o t ((k, .tail xs.length) :: pre) [(k, .tail (xs ++ ys).length)] (.own e (xs ++ ys) k) := by
  rw [List.length_append]
  intro n X a next Q hR hop hpre hup hk
  have g1 := hop x t_82
  have g2 := hop y t_82
  rw [hx] at g1; rw [hy] at g2
  have hkd : X.bx k = .tail xs.length := hpre (k, .tail xs.length) (by simp)
  have hkn : k < n := hup (k, .tail (xs.length + ys.length)) (by simp)
  obtain ⟨l1, l2, new, l3, l4, l5, l6⟩ := hvy P n X _ hR g2 (fun p hp => hpre p (List.mem_cons_of_mem _ hp))
  have g1' := g1
  simp only [VRep] at g1
  obtain ⟨ad, cap, s1, s2, s3, n0, s4, s5, s6⟩ := g1
  rw [hkd] at s4
  cases s4
  have hex : execOp a.eval o = (do pure (.value (← Builtin.append_ tys o.type #[a.eval x, a.eval y]))) := by
    rw [exec_builtin ho]
    have e1 : (#[x, y].map a.eval : Array Value) = #[a.eval x, a.eval y] := by simp
    rw [e1]; rfl
  have key : ∃ X' u', (Builtin.append_ tys o.type #[a.eval x, a.eval y]).run P X.w = .ok u' X'.w ∧ X'.bx = upd X.bx k (.tail (xs.length + ys.length)) ∧ R n X' ∧ Ext X X' ∧ VRep X' (.own e (xs ++ ys) k) u' := by
    by_cases hys : ys.length = 0
    · have hy0 : ys = [] := List.length_eq_zero_iff.1 hys
      subst hy0
      have hnew : new = [] := t_113
      subst hnew
      rw [s1] at g1' ⊢
      refine ⟨X, _, run_append_room (w' := X.w) h0 h1 hu hu2 he.size l1 (by simpa using s2) o.type t_121 ?_, ?_, hR, Ext.refl X, by simpa using g1'⟩
      · cases ad with
        | none => rfl
        | some ad => simp [storeCells]
      · funext j
        by_cases e1 : j = k
        · subst e1; rw [upd_eq, hkd]; rfl
        · rw [upd_ne _ _ _ _ e1]
    · rw [s1]
      by_cases hroom : xs.length + ys.length ≤ cap
      · rcases s6 rfl with h7 | ⟨b, q, st, arr, ty', h7, h8, h9, h10, h11⟩
        · omega
        · subst h7
          have he0 : ys.length * e = new.length := l4.symm
          have hcape : (xs.length + ys.length) * e ≤ cap * e := Nat.mul_le_mul hroom (Nat.le_refl _)
          rw [Nat.add_mul] at hcape
          obtain ⟨w', r1, r2, r3, r4, r5, r6, r7⟩ := run_storeCells (P := P) (b := b) new st 0 X.w arr.toList ty' (by simpa using h10) (by simp; omega) l5
          have hsame : ∀ j, j < st → (arr.toList.take (st + 0) ++ new ++ arr.toList.drop (st + 0 + new.length))[j]? = arr.toList[j]? := by
            intro j hj
            have hlt : j < arr.toList.length := by simp; omega
            rw [List.append_assoc, List.getElem?_append_left (by simp; omega), List.getElem?_take, if_pos (by omega)]
          obtain ⟨t1, t2⟩ := grow_in (m := xs.length + ys.length) (st' := st + new.length) hR hkd (by omega) h8 (by omega) (us := arr.toList) (by simpa using h10) r2 r3 r4 r5 r6 r7 hsame
          have hb1 : a.eval y = a.eval y := rfl
          refine ⟨_, _, run_append_room (w' := w') h0 h1 hu hu2 he.size l1 hroom o.type t_121 ?_, rfl, t1, t2, ?_⟩
          · show (storeCells ((⟨b, q, none⟩ : Addr).add (xs.length * e)) new).run P X.w = _
            rw [addr_add, h9]; exact r1
          · have hrows : RowsAt { X with O := upd X.O b (.grow k (st + new.length)), bx := upd X.bx k (.tail (xs.length + ys.length)), w := w' } e (xs ++ ys) b q := by
              have hnew : RowsAt { X with O := upd X.O b (.grow k (st + new.length)), bx := upd X.bx k (.tail (xs.length + ys.length)), w := w' } e ys b st := by
                refine rowsAt_of (RowRep.mono t2 _ _ l3) l2 (fun j v hj => ?_) (fun j hj => ?_) l5
                · show w'.cell? _ = _
                  have hjl : j < new.length := (List.getElem?_eq_some_iff.1 hj).1
                  have hsl : st ≤ arr.toList.length := by simp; omega
                  rw [cell_some r7, List.append_assoc, List.getElem?_append_right t_97, List.getElem?_append_left t_97]
                  have : st + j - (List.take (st + 0) arr.toList).length = j := t_97
                  rw [this]; exact hj
                · show Stb (upd X.O b _ b) _
                  rw [upd_eq]; show st + j < st + new.length; omega
              rcases s3 with rfl | ⟨b', q', h12, h13⟩
              · simp at h9; subst h9; simpa using hnew
              · cases h12
                refine RowsAt.append (RowsAt.mono t2 e xs b q h13) ?_;rw [h9]; exact hnew
            simp only [VRep]
            refine ⟨some ⟨b, q, none⟩, cap, by rw [List.length_append], by rw [List.length_append]; exact hroom, .inr ⟨b, q, rfl, hrows⟩, xs.length + ys.length, upd_eq _ _ _, Nat.le_of_eq List.length_append, fun _ => .inr ?_⟩;refine ⟨b, q, st + new.length, _, ty', rfl, upd_eq _ _ _, ?_, r7, ?_⟩
            · rw [List.length_append, Nat.add_mul]; omega
            · simp; omega
      · exact append_realloc hR (.inr ⟨_, hkd, by omega⟩) hkn h0 h1 hu hu2 he s3 l1 l2 (by omega) hb o.type l3 l4 l5 (fun d => t_125)
  obtain ⟨X', u', k1, k2, k3, k4, k5⟩ := key
  unfold Oper.wp
  rw [exec_run hex k1]
  exact hk X' u' k2 k3 k4 k5
end
end Go.Vm
