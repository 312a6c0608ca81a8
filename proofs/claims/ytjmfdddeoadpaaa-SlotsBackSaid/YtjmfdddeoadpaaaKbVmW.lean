/- A logic of values over the model. Part W: clear. -/
import Derived.Test.YtjmfdddeoadpaaaKbVmV
set_option linter.unusedVariables false
set_option linter.unusedSimpArgs false
namespace Go.Vm
section
variable {P : Program} {o : Oper} {t : Nat → V}
theorem zeroCells_one (z : Value) (n : Nat) : (Builtin.zeroCells #[z] n).toList = List.replicate n z := by
  unfold Builtin.zeroCells
  refine List.ext_getElem (by simp) fun i h1 h2 => ?_
  simp [Nat.mod_one]
theorem step_clear {ty el : TypeId} {tys : Array TypeId} {x : Operand} {k q len cap : Nat} {cs cs' : List V} {z : Value} (ho : o.op = .call { callee := .builtin .clear, args := #[x], argTypes := tys }) (h0 : tys[0]? = some ty) (hu : P.underlying ty = some (.slice el)) (hz : (P.info? el).bind (·.zero) = some z)
    (hz1 : oneV z = true) (hzc : z.cells = #[z]) (hx : ev t x = .msl k q len cap 1) (hl : q + len ≤ cs.length) (hcs : setSeg cs q (List.replicate len (V.sc z)) = cs') :
    StepOK P o t [(k, .cells cs)] [(k, .cells cs')] (.tup []) := by
  intro n X a next Q hR hop hpre hup hk
  have g1 := hop x (by simp [ho, Op.operands, Call.operands])
  rw [hx] at g1
  simp only [VRep] at g1
  have hb : X.bx k = .cells cs := hpre (k, .cells cs) (by simp)
  obtain ⟨us, ty', h3, h4, h5⟩ := (hR.box k cs hb).2
  have hcl : us.length = cs.length := h4.length.symm
  have hrz : ∀ w, (zeroValue el).run P w = .ok z w := fun w => run_zero hz w
  obtain ⟨w', r1, r2, r3, r4, r5, r6, r7⟩ := run_storeCells (P := P) (b := X.bl k) (List.replicate len z) q 0 X.w us ty' h3 (by rw [List.length_replicate]; omega) (fun x hx => by rw [List.eq_of_mem_replicate hx]; exact hz1)
  have hex : execOp a.eval o = (do pure (.value (← Builtin.clear_ tys o.type #[a.eval x]))) := by
    rw [exec_builtin ho]
    have e1 : (#[x].map a.eval : Array Value) = #[a.eval x] := by simp
    rw [e1]; rfl
  have hrun : (Builtin.clear_ tys o.type #[a.eval x]).run P X.w = .ok (.tuple #[]) w' := by
    unfold Builtin.clear_
    rw [g1.2]
    simp only [h0, List.getElem?_toArray, List.getElem?_cons_zero, Sem.run_bind, run_under hu, Result.andThen_ok]
    cases len with
    | zero =>
      simp only [List.replicate_zero] at r1
      have : w' = X.w := by
        have h : (storeCells ⟨X.bl k, q, none⟩ [] 0).run P X.w = .ok () X.w := rfl
        rw [h] at r1; injection r1 with _ e; exact e.symm
      rw [this]
      rfl
    | succ m =>
      simp only [hrz, Result.andThen_ok, hzc, zeroCells_one, r1, Sem.run_bind]
      rfl
  have hnew : RowRep X cs' (us.take q ++ List.replicate len z ++ us.drop (q + len)) := by
    rw [← hcs]
    unfold setSeg
    rw [List.length_replicate]
    refine ((h4.take q).append ?_).append (h4.drop _)
    clear hcs hl r1 hrun r7 g1 hk hx
    induction len with
    | zero => simp [RowRep]
    | succ m ih =>
      simp only [List.replicate_succ, RowRep]
      exact ⟨z, _, rfl, by simp [VRep], ih⟩
  have hone : ∀ x ∈ us.take q ++ List.replicate len z ++ us.drop (q + len), oneV x = true := by
    intro x hx
    rcases List.mem_append.1 hx with hx | hx
    · rcases List.mem_append.1 hx with hx | hx
      · exact h5 x (List.mem_of_mem_take hx)
      · rw [List.eq_of_mem_replicate hx]; exact hz1
    · exact h5 x (List.mem_of_mem_drop hx)
  obtain ⟨e1, e2⟩ := set_box (w' := w') hR hb r2 r3 r4 r5 r6 ⟨ty', by rw [r7]; simp⟩ hnew hone
  unfold Oper.wp
  rw [exec_run hex hrun]
  exact hk _ _ rfl e1 e2 (by simp [VRep, RowRep])
end
end Go.Vm
