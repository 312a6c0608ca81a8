/- A logic of values over the model. Part K: cuts of arrays, shifts and bits. -/
import Derived.Test.YtldlmmpniddbcaaKpVmJ
import Derived.Laws.BitsLemmas
import Derived.Laws.Entries
set_option linter.unusedVariables false
set_option linter.unusedSimpArgs false
namespace Go.Vm
section
variable {P : Program} {o : Oper} {t : Nat → V} {l : List (Nat × V)}
/-- A cut of an array that is a box's; its numbers are told plainly. -/
theorem step_sl_arr {ty el : TypeId} {x : Operand} {lo hi mx : Option Operand} {e k q len a h m q' n' c' : Nat} (ho : o.op = .slice ty x lo hi mx) (hx : ev t x = .ref k q) (hu : P.underlying ty = some (.array len el)) (he : (P.info? el).map (·.size) = some e)
    (hlo : bndLo (lo.map (ev t)) = some a) (hhi : bndHi len (hi.map (ev t)) = some h) (hmx : bndHi len (mx.map (ev t)) = some m) (hmh : mx.isSome = true → hi.isSome = true) (hlh : a ≤ h) (hh : h ≤ m) (hm : m ≤ len)
    (hq : m ≠ a ∧ q + a * e = q' ∨ m = a ∧ q = q') (hn : h - a = n') (hc : m - a = c') : StepOK P o t [] [] (.msl k q' n' c' e) := by
  have := step_slice_arr ho hx hu he hlo hhi hmx hmh hlh hh hm
  rcases hq with ⟨h1, h2⟩ | ⟨h1, h2⟩
  · rw [if_neg h1, h2, hn, hc] at this; exact this
  · rw [if_pos h1, h2, hn, hc] at this; exact this
theorem CellsAt.taken {X : Ctx} : ∀ {vs : List V} {b q : Nat} (i : Nat), CellsAt X vs b q → CellsAt X (vs.take i) b q
  | [], b, q, i, h => by simpa using h
  | v :: vs, b, q, 0, h => by simp [CellsAt]
  | v :: vs, b, q, i + 1, h => by
    simp only [CellsAt, List.take_succ_cons] at h ⊢
    exact ⟨h.1, CellsAt.taken i h.2⟩
/-- A cell of an array that nobody writes any more. -/
theorem step_index_ro {ty el : TypeId} {x y : Operand} {len : Nat} {kd : IntKind} {i : Int} {row : List V} {v : V} (ho : o.op = .indexAddr ty x y) (hx : ev t x = .ro row) (hy : ev t y = .sc (.int kd i))
    (hu : P.underlying ty = some (.array len el)) (he : (P.info? el).map (·.size) = some 1) (h0 : 0 ≤ i) (h1 : i < len) (hv : row[i.toNat]? = some v) : StepOK P o t [] [] (.ro [v]) := by
  refine step_value fun n X ρ hR hop hpre => ?_
  have g1 := hop x (by simp [ho, Op.operands])
  have g2 := hop y (by simp [ho, Op.operands])
  rw [hx] at g1; rw [hy] at g2
  simp only [VRep] at g1 g2
  obtain ⟨b, q, h3, h4⟩ := g1
  refine ⟨.pointer (some ⟨b, q + i.toNat * 1, none⟩), exec_run (exec_indexAddr ho) ?_, ?_⟩
  · rw [h3, g2]
    simp only [Instr.indexAt, asIntOf, Sem.run_bind, Sem.run_pure, Result.andThen_ok, run_under hu, Instr.sureAddr, h0, h1, and_self, if_true, run_size he, addr_add]
  · simp only [VRep]
    have h5 := (h4.dropped i.toNat).taken 1
    have h6 : (row.drop i.toNat).take 1 = [v] := by
      have hl := (List.getElem?_eq_some_iff.1 hv).1
      rw [List.drop_eq_getElem_cons hl, List.take_succ_cons, List.take_zero]
      rw [List.getElem?_eq_getElem hl] at hv
      cases hv; rfl
    rw [h6] at h5
    exact ⟨b, q + i.toNat * 1, rfl, by rw [Nat.mul_one]; exact h5⟩
theorem bndLo_nat {x : Operand} {k : IntKind} {i : Int} {a : Nat} (h : lko l x = some (.sc (.int k i))) (h0 : i = (a : Int)) : bndLo ((some x).map (ev (mk l))) = some a := by
  rw [bndLo_some h (by omega)]; congr 1; omega
theorem bndHi_nat {x : Operand} {k : IntKind} {i : Int} {m a : Nat} (h : lko l x = some (.sc (.int k i))) (h0 : i = (a : Int)) : bndHi m ((some x).map (ev (mk l))) = some a := by
  rw [bndHi_some h (by omega)]; congr 1; omega
theorem step_shl {ty ty2 : TypeId} {x y : Operand} {k yk : IntKind} {a b r : Int} (ho : o.op = .binOp .shl ty x y ty2) (hx : ev t x = .sc (.int k a)) (hy : ev t y = .sc (.int yk b)) (h0 : 0 ≤ b) (h : k.wrap (a * 2 ^ (min b.toNat k.bits)) = r) : StepOK P o t [] [] (.sc (.int k r)) :=
  step_binOp ho hx hy fun w => by
    subst h
    simp only [eqGuard, binOp, Op.shift, Int.not_lt.2 h0, if_false]
    rfl
theorem step_shr {ty ty2 : TypeId} {x y : Operand} {k yk : IntKind} {a b r : Int} (ho : o.op = .binOp .shr ty x y ty2) (hx : ev t x = .sc (.int k a)) (hy : ev t y = .sc (.int yk b)) (h0 : 0 ≤ b) (h : a.fdiv (2 ^ (min b.toNat k.bits)) = r) : StepOK P o t [] [] (.sc (.int k r)) :=
  step_binOp ho hx hy fun w => by
    subst h
    simp only [eqGuard, binOp, Op.shift, Int.not_lt.2 h0, if_false]
    rfl
theorem step_bits {op : BinOp} {ty ty2 : TypeId} {x y : Operand} {k : IntKind} {a b r : Int} (ho : o.op = .binOp op ty x y ty2) (hx : ev t x = .sc (.int k a)) (hy : ev t y = .sc (.int k b)) (hop : op = .and ∨ op = .or ∨ op = .xor ∨ op = .andNot) (h : bits op k a b = r) : StepOK P o t [] [] (.sc (.int k r)) :=
  step_binOp ho hx hy fun w => by
    subst h
    rcases hop with rfl | rfl | rfl | rfl
    · simp only [eqGuard, binOp_and, intBits_and]; rfl
    · simp only [eqGuard, binOp_or, intBits_or]; rfl
    · simp only [eqGuard, binOp_xor, intBits_xor]; rfl
    · simp only [eqGuard, binOp_andNot, intBits_andNot]; rfl
theorem step_quo {ty ty2 : TypeId} {x y : Operand} {k : IntKind} {a b : Int} (ho : o.op = .binOp .quo ty x y ty2) (hx : ev t x = .sc (.int k a)) (hy : ev t y = .sc (.int k b)) (ha : 0 ≤ a) (hb : 0 < b) (h : k.wrap (a / b) = a / b) : StepOK P o t [] [] (.sc (.int k (a / b))) :=
  step_binOp ho hx hy fun w => by
    have e : a.tdiv b = a / b := Int.tdiv_eq_ediv_of_nonneg ha
    simp only [eqGuard, binOp_quo, Op.intDiv, show ¬ b = 0 by omega, if_false, e, h]; rfl
theorem step_rem {ty ty2 : TypeId} {x y : Operand} {k : IntKind} {a b : Int} (ho : o.op = .binOp .rem ty x y ty2) (hx : ev t x = .sc (.int k a)) (hy : ev t y = .sc (.int k b)) (ha : 0 ≤ a) (hb : 0 < b) : StepOK P o t [] [] (.sc (.int k (a % b))) :=
  step_binOp ho hx hy fun w => by
    have e : a.tmod b = a % b := Int.tmod_eq_emod_of_nonneg ha
    simp only [eqGuard, binOp_rem, Op.intDiv, show ¬ b = 0 by omega, if_false, e]; rfl
theorem step_build_zero {ty el : TypeId} {ps : Array (Nat × Operand)} {len e m : Nat} {z : Value} (ho : o.op = .build ty ps) (hps : ps = #[]) (hu : P.underlying ty = some (.array len el)) (he : (P.info? el).map (·.size) = some e)
    (hz : (P.info? ty).bind (·.zero) = some (.agg (List.replicate m z).toArray)) (h1 : oneV z = true) : StepOK P o t [] [] (.agg (List.replicate m (.sc z))) := by
  subst hps
  exact step_build_arr (zs := List.replicate m z) ho hu he hz rfl (by simp [h1]) (by simp [fillV])
theorem or_join8 {a b : Int} (ha : 0 ≤ a) (ha2 : a * 256 < 18446744073709551616) (hb : 0 ≤ b) (hb2 : b < 256) : bits .or .u64 (a * 256) b = a * 256 + b :=
  bits_join .u64 64 (by decide) (fun n h1 h2 => wu64 ⟨h1, by omega⟩) 8 (a * 256) b (by omega) (by omega) (by omega) hb (by omega) (by omega)
end
end Go.Vm
