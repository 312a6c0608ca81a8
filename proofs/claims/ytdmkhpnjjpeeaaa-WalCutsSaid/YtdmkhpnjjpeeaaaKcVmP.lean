import Derived.Test.YtdmkhpnjjpeeaaaKcQq
import Derived.Test.YtdmkhpnjjpeeaaaKcVmJ
import Derived.Laws.BitsLemmas
import Derived.Laws.Entries
import Derived.WideShapes
set_option linter.unusedVariables false
set_option linter.unusedSimpArgs false
namespace Go.Vm
section
variable {P : Program} {o : Oper} {t : Nat → V} {l : List (Nat × V)}
theorem step_sl_arr {ty el : TypeId} {x : Operand} {lo hi mx : Option Operand} {e k q len a h m q' n' c' : Nat} (ho : o.op = .slice ty x lo hi mx) (hx : ev t x = .ref k q) (hu : P.underlying ty = some (.array len el)) (he : (P.info? el).map (·.size) = some e)
    (hlo : bndLo (lo.map (ev t)) = some a) (hhi : bndHi len (hi.map (ev t)) = some h) (hmx : bndHi len (mx.map (ev t)) = some m) (hmh : mx.isSome = true → hi.isSome = true) (hlh : a ≤ h) (hh : h ≤ m) (hm : m ≤ len)
    (hq : m ≠ a ∧ q + a * e = q' ∨ m = a ∧ q = q') (hn : h - a = n') (hc : m - a = c') : StepOK P o t [] [] (.msl k q' n' c' e) := by
  have := step_slice_arr ho hx hu he hlo hhi hmx hmh hlh hh hm
  rcases hq with ⟨h1, h2⟩ | ⟨h1, h2⟩
  · rw [if_neg h1, h2, hn, hc] at this; exact this
  · rw [if_pos h1, h2, hn, hc] at this; exact this
theorem step_sl_msl {ty el : TypeId} {x : Operand} {lo hi mx : Option Operand} {e k q len cap a h m q' n' c' : Nat} (ho : o.op = .slice ty x lo hi mx) (hx : ev t x = .msl k q len cap e) (hu : P.underlying ty = some (.slice el)) (he : (P.info? el).map (·.size) = some e)
    (hlo : bndLo (lo.map (ev t)) = some a) (hhi : bndHi len (hi.map (ev t)) = some h) (hmx : bndHi cap (mx.map (ev t)) = some m) (hmh : mx.isSome = true → hi.isSome = true) (hlh : a ≤ h) (hh : h ≤ m) (hm : m ≤ cap)
    (hq : m ≠ a ∧ q + a * e = q' ∨ m = a ∧ q = q') (hn : h - a = n') (hc : m - a = c') : StepOK P o t [] [] (.msl k q' n' c' e) := by
  have := step_slice_msl ho hx hu he hlo hhi hmx hmh hlh hh hm
  rcases hq with ⟨h1, h2⟩ | ⟨h1, h2⟩
  · rw [if_neg h1, h2, hn, hc] at this; exact this
  · rw [if_pos h1, h2, hn, hc] at this; exact this
theorem CellsAt.taken {X : Ctx} : ∀ {vs : List V} {b q : Nat} (i : Nat), CellsAt X vs b q → CellsAt X (vs.take i) b q
  | [], b, q, i, h => t_123
  | v :: vs, b, q, 0, h => by simp [CellsAt]
  | v :: vs, b, q, i + 1, h => by
    simp only [CellsAt, List.take_succ_cons] at h ⊢
    exact ⟨h.1, CellsAt.taken i h.2⟩
theorem step_index_ro {ty el : TypeId} {x y : Operand} {len : Nat} {kd : IntKind} {i : Int} {row : List V} {v : V} (ho : o.op = .indexAddr ty x y) (hx : ev t x = .ro row) (hy : ev t y = .sc (.int kd i))
    (hu : P.underlying ty = some (.array len el)) (he : (P.info? el).map (·.size) = some 1) (h0 : 0 ≤ i) (h1 : i < len) (hv : row[i.toNat]? = some v) : StepOK P o t [] [] (.ro [v]) := by
  refine step_value fun n X ρ hR hop hpre => ?_
  have g1 := hop x t_63
  have g2 := hop y t_63
  rw [hx] at g1; rw [hy] at g2
  simp only [VRep] at g1 g2
  obtain ⟨b, q, h3, h4⟩ := g1
  refine ⟨.pointer (some ⟨b, q + i.toNat * 1, none⟩), exec_run (exec_indexAddr ho) ?_, ?_⟩
  · rw [h3, g2]
    simp only [Instr.indexAt, asIntOf, Sem.run_bind, Sem.run_pure, Result.andThen_ok, run_under hu, Instr.sureAddr, h0, h1, and_self, if_true, run_size he, addr_add]
  · simp only [VRep]
    have h5 := (h4.dropped i.toNat).taken 1
    have h6 : (row.drop i.toNat).take 1 = [v] := by
      have hl := (List.getElem?_eq_some_iff.1 hv).1
      rw [List.drop_eq_getElem_cons hl, List.take_succ_cons, List.take_zero]
      rw [List.getElem?_eq_getElem hl] at hv
      cases hv; rfl
    rw [h6] at h5
    exact ⟨b, q + i.toNat * 1, rfl, by rw [Nat.mul_one]; exact h5⟩
theorem bndLo_nat {x : Operand} {k : IntKind} {i : Int} {a : Nat} (h : lko l x = some (.sc (.int k i))) (h0 : i = (a : Int)) : bndLo ((some x).map (ev (mk l))) = some a := by
  rw [bndLo_some h (by omega)]; congr 1; omega
theorem bndHi_nat {x : Operand} {k : IntKind} {i : Int} {m a : Nat} (h : lko l x = some (.sc (.int k i))) (h0 : i = (a : Int)) : bndHi m ((some x).map (ev (mk l))) = some a := by
  rw [bndHi_some h (by omega)]; congr 1; omega
theorem step_shl {ty ty2 : TypeId} {x y : Operand} {k yk : IntKind} {a b r : Int} (ho : o.op = .binOp .shl ty x y ty2) (hx : ev t x = .sc (.int k a)) (hy : ev t y = .sc (.int yk b)) (h0 : 0 ≤ b) (h : k.wrap (a * 2 ^ (min b.toNat k.bits)) = r) : StepOK P o t [] [] (.sc (.int k r)) :=
  step_binOp ho hx hy fun w => by
    subst h
    simp only [eqGuard, binOp, Op.shift, Int.not_lt.2 h0, if_false]
    rfl
theorem step_shr {ty ty2 : TypeId} {x y : Operand} {k yk : IntKind} {a b r : Int} (ho : o.op = .binOp .shr ty x y ty2) (hx : ev t x = .sc (.int k a)) (hy : ev t y = .sc (.int yk b)) (h0 : 0 ≤ b) (h : a.fdiv (2 ^ (min b.toNat k.bits)) = r) : StepOK P o t [] [] (.sc (.int k r)) :=
  step_binOp ho hx hy fun w => by
    subst h
    simp only [eqGuard, binOp, Op.shift, Int.not_lt.2 h0, if_false]
    rfl
theorem step_bits {op : BinOp} {ty ty2 : TypeId} {x y : Operand} {k : IntKind} {a b r : Int} (ho : o.op = .binOp op ty x y ty2) (hx : ev t x = .sc (.int k a)) (hy : ev t y = .sc (.int k b)) (hop : op = .and ∨ op = .or ∨ op = .xor ∨ op = .andNot) (h : bits op k a b = r) : StepOK P o t [] [] (.sc (.int k r)) :=
  step_binOp ho hx hy fun w => by
    subst h
    rcases hop with rfl | rfl | rfl | rfl
    · simp only [eqGuard, binOp_and, intBits_and]; rfl
    · simp only [eqGuard, binOp_or, intBits_or]; rfl
    · simp only [eqGuard, binOp_xor, intBits_xor]; rfl
    · simp only [eqGuard, binOp_andNot, intBits_andNot]; rfl
theorem step_quo {ty ty2 : TypeId} {x y : Operand} {k : IntKind} {a b : Int} (ho : o.op = .binOp .quo ty x y ty2) (hx : ev t x = .sc (.int k a)) (hy : ev t y = .sc (.int k b)) (ha : 0 ≤ a) (hb : 0 < b) (h : k.wrap (a / b) = a / b) : StepOK P o t [] [] (.sc (.int k (a / b))) :=
  step_binOp ho hx hy fun w => by
    have e : a.tdiv b = a / b := Int.tdiv_eq_ediv_of_nonneg ha
    simp only [eqGuard, binOp_quo, Op.intDiv, show ¬ b = 0 by omega, if_false, e, h]; rfl
theorem step_rem {ty ty2 : TypeId} {x y : Operand} {k : IntKind} {a b : Int} (ho : o.op = .binOp .rem ty x y ty2) (hx : ev t x = .sc (.int k a)) (hy : ev t y = .sc (.int k b)) (ha : 0 ≤ a) (hb : 0 < b) : StepOK P o t [] [] (.sc (.int k (a % b))) :=
  step_binOp ho hx hy fun w => by
    have e : a.tmod b = a % b := Int.tmod_eq_emod_of_nonneg ha
    simp only [eqGuard, binOp_rem, Op.intDiv, show ¬ b = 0 by omega, if_false, e]; rfl
theorem step_build_zero {ty el : TypeId} {ps : Array (Nat × Operand)} {len e m : Nat} {z : Value} (ho : o.op = .build ty ps) (hps : ps = #[]) (hu : P.underlying ty = some (.array len el)) (he : (P.info? el).map (·.size) = some e)
    (hz : (P.info? ty).bind (·.zero) = some (.agg (List.replicate m z).toArray)) (h1 : oneV z = true) : StepOK P o t [] [] (.agg (List.replicate m (.sc z))) := by
  subst hps
  exact step_build_arr (zs := List.replicate m z) ho hu he hz rfl (by simp [h1]) (by simp [fillV])
theorem or_join8 {a b : Int} (ha : 0 ≤ a) (ha2 : a * 256 < 18446744073709551616) (hb : 0 ≤ b) (hb2 : b < 256) : bits .or .u64 (a * 256) b = a * 256 + b :=
  bits_join .u64 64 (by decide) (fun n h1 h2 => wu64 ⟨h1, by omega⟩) 8 (a * 256) b (by omega) (by omega) (by omega) hb (by omega) (by omega)
end
end Go.Vm
set_option linter.unusedVariables false
set_option linter.unusedSimpArgs false
namespace Go.Vm
theorem g_write {n k v v' e b : Nat} {X : Ctx} {rows rows' : List (List V)} {us' rest' : List Value} {us : Array Value} {ty : TypeId} {w' : World} (h : R n X) (hk : X.bx k = .gcells v e rows) (hO : X.O (X.bl k) = .box k) (hv : v ≤ v')
    (hb : b = X.bl k) (hh : X.w.heap[b]? = some (.cells us ty (0, 0)))
    (hos : w'.os = X.w.os) (htape : w'.tape = X.w.tape) (hout : w'.output = X.w.output) (hsz : w'.heap.size = X.w.heap.size)
    (hne : ∀ b', b' ≠ b → w'.heap[b']? = X.w.heap[b']?) (hnew : w'.heap[b]? = some (.cells (us' ++ rest').toArray ty (0, 0))) (hus : (us' ++ rest').length = us.size)
    (hl : ∀ r ∈ rows', r.length = e) (hr : RowRep X rows'.flatten us') (hul : us'.length = rows'.length * e) (h1 : ∀ x ∈ us', oneV x = true) :
    R n { X with bx := upd X.bx k (.gcells v' e rows'), w := w' } ∧ Ext X { X with bx := upd X.bx k (.gcells v' e rows'), w := w' } := by
  subst hb
  have he : Ext X { X with bx := upd X.bx k (.gcells v' e rows'), w := w' } := by
    refine ⟨fun b o hs => ⟨hs, ?_⟩, fun j hj => ⟨?_, rfl⟩, fun j m hj => ⟨m, ?_, Nat.le_refl _, fun _ b st arr ty h1 h2 => ⟨h1, arr, ?_, rfl⟩⟩, fun b hb => ⟨hb, ?_⟩, fun j v0 e0 rows0 hj => ?_, hos, htape, hout, by show _ ≤ w'.heap.size; omega⟩
    · have : b ≠ X.bl k := by intro e; subst e; rw [hO] at hs; exact hs
      exact World.cell?_of_block (w := X.w) (a := ⟨b, o, none⟩) (hne b this)
    · have e : j ≠ k := by intro e; subst e; rw [hk] at hj; exact hj
      show (upd X.bx k _ j).is
      rw [upd_ne _ _ _ _ e]; exact hj
    · have e : j ≠ k := by intro e; subst e; rw [hk] at hj; cases hj
      exact (upd_ne _ _ _ _ e).trans hj
    · have : b ≠ X.bl k := by intro e; subst e; rw [hO] at h1; cases h1
      exact (hne b this).trans h2
    · have : b ≠ X.bl k := by intro e; subst e; rw [hO] at hb; cases hb
      exact hne b this
    · by_cases e1 : j = k
      · subst e1
        rw [hk] at hj; cases hj
        refine ⟨v', rows', upd_eq _ _ _, hv, fun _ => ⟨rfl, fun hOj => ⟨hOj, fun us0 ty0 hu => ?_⟩⟩⟩;rw [hh] at hu; cases hu;exact ⟨_, hnew, by simpa using hus⟩
      · refine ⟨v0, rows0, (upd_ne _ _ _ _ e1).trans hj, Nat.le_refl _, fun _ => ⟨rfl, fun hOj => ⟨hOj, fun us0 ty0 hu => ⟨us0, ?_, rfl⟩⟩⟩⟩
        have : X.bl j ≠ X.bl k := by intro e2; rw [e2, hO] at hOj; cases hOj; exact e1 rfl
        exact (hne _ this).trans hu
  refine ⟨⟨fun j hj => ?_, fun b hb => h.free b (by simpa [hsz] using hb), fun j cs1 hj => ?_, fun j v0 e0 rows0 hj => ?_, obj_same h he fun j o hj => by
    have hj' : upd X.bx k (.gcells v' e rows') j = .obj o := hj
    have e : j ≠ k := t_60
    rw [upd_ne _ _ _ _ e] at hj'
    refine ⟨hj', rfl, fun hOj => ⟨hOj, hne _ ?_⟩⟩
    intro e2; rw [e2, hO] at hOj; cases hOj; exact e rfl⟩, he⟩
  · have e : j ≠ k := by intro e; subst e; rw [h.dead j hj] at hk; cases hk
    exact (upd_ne _ _ _ _ e).trans (h.dead j hj)
  · have hj' : upd X.bx k (.gcells v' e rows') j = .cells cs1 := hj
    have e : j ≠ k := t_60
    rw [upd_ne _ _ _ _ e] at hj'
    obtain ⟨g1, us1, ty1, g2, g3, g4⟩ := h.box j cs1 hj'
    have : X.bl j ≠ X.bl k := by intro e2; rw [e2, hO] at g1; cases g1; exact e rfl
    exact ⟨g1, us1, ty1, (hne _ this).trans g2, RowRep.mono he _ _ g3, g4⟩
  · have hj' : upd X.bx k (.gcells v' e rows') j = .gcells v0 e0 rows0 := hj
    by_cases e1 : j = k
    · subst e1
      rw [upd_eq] at hj'; cases hj'
      exact ⟨hl, .inr ⟨hO, us', rest', ty, hnew, RowRep.mono he _ _ hr, hul, h1⟩⟩
    · rw [upd_ne _ _ _ _ e1] at hj'
      obtain ⟨g1, g2⟩ := h.gbox j v0 e0 rows0 hj'
      refine ⟨g1, g2.imp id fun ⟨j1, us, rest, ty, j2, j3, j4, j5⟩ => ?_⟩;have : X.bl j ≠ X.bl k := by intro e2; rw [e2, hO] at j1; cases j1; exact e1 rfl
      exact ⟨j1, us, rest, ty, (hne _ this).trans j2, RowRep.mono he _ _ j3, j4, j5⟩
theorem g_new {n k v' e : Nat} {X : Ctx} {rows' : List (List V)} {us' rest' : List Value} {ty : TypeId} (h : R n X) (hk : X.bx k = .dead ∨ ∃ v rows, X.bx k = .gcells v e rows ∧ v < v') (hn : k < n) (d : Nat)
    (hl : ∀ r ∈ rows', r.length = e) (hr : RowRep X rows'.flatten us') (hul : us'.length = rows'.length * e) (h1 : ∀ x ∈ us', oneV x = true) :
    ∃ X', X'.bx = upd X.bx k (.gcells v' e rows') ∧ X'.w = ({ X.w with drawn := d } : World).alloc (.cells (us' ++ rest').toArray ty (0, 0)) ∧ X'.bl k = X.w.heap.size ∧ X'.O X.w.heap.size = .box k ∧ R n X' ∧ Ext X X' := by
  let X' : Ctx := { O := upd X.O X.w.heap.size (.box k), bl := upd X.bl k X.w.heap.size, bx := upd X.bx k (.gcells v' e rows'), w := ({ X.w with drawn := d } : World).alloc (.cells (us' ++ rest').toArray ty (0, 0)) }
  have hfree := h.free X.w.heap.size (Nat.le_refl _)
  have hne : ∀ b, b ≠ X.w.heap.size → X'.w.heap[b]? = X.w.heap[b]? := by
    intro b hb
    show (X.w.heap.push _)[b]? = _
    rw [Array.getElem?_push, if_neg hb]
  have hOne : ∀ b, b ≠ X.w.heap.size → X'.O b = X.O b := fun b hb => upd_ne _ _ _ _ hb
  have he : Ext X X' := by
    refine ⟨fun b o hs => ?_, fun j hj => ?_, fun j m hj => ⟨m, ?_, Nat.le_refl _, fun _ b st arr ty h1 h2 => ⟨?_, arr, ?_, rfl⟩⟩, fun b hb => ?_, fun j v0 e0 rows0 hj => ?_, rfl, rfl, rfl, by show _ ≤ (X.w.heap.push _).size; simp⟩
    · have : b ≠ X.w.heap.size := by intro e; subst e; rw [hfree] at hs; exact hs
      rw [hOne b this]
      exact ⟨hs, World.cell?_of_block (w := X.w) (a := ⟨b, o, none⟩) (hne b this)⟩
    · have e : j ≠ k := by intro e; subst e; rcases hk with hk | ⟨v, rows, hk, _⟩ <;> (rw [hk] at hj; exact hj)
      exact ⟨by show (upd X.bx k _ j).is; rw [upd_ne _ _ _ _ e]; exact hj, upd_ne _ _ _ _ e⟩
    · have e : j ≠ k := by intro e; subst e; rcases hk with hk | ⟨v, rows, hk, _⟩ <;> (rw [hk] at hj; cases hj)
      exact (upd_ne _ _ _ _ e).trans hj
    · have : b ≠ X.w.heap.size := by intro e; subst e; rw [hfree] at h1; cases h1
      rw [hOne b this]; exact h1
    · have : b ≠ X.w.heap.size := by intro e; subst e; rw [hfree] at h1; cases h1
      exact (hne b this).trans h2
    · have : b ≠ X.w.heap.size := by intro e; subst e; rw [hfree] at hb; cases hb
      rw [hOne b this]
      exact ⟨hb, hne b this⟩
    · by_cases e1 : j = k
      · subst e1
        rcases hk with hk | ⟨v, rows, hk, hv⟩
        · rw [hk] at hj; cases hj
        · rw [hk] at hj; cases hj
          exact ⟨v', rows', upd_eq _ _ _, Nat.le_of_lt hv, fun hvv => by omega⟩
      · refine ⟨v0, rows0, (upd_ne _ _ _ _ e1).trans hj, Nat.le_refl _, fun _ => ⟨upd_ne _ _ _ _ e1, fun hOj => ?_⟩⟩
        have : X.bl j ≠ X.w.heap.size := t_122
        exact ⟨(hOne _ this).trans hOj, fun us0 ty0 hu => ⟨us0, (hne _ this).trans hu, rfl⟩⟩
  refine ⟨X', rfl, rfl, upd_eq _ _ _, upd_eq _ _ _, ⟨fun j hj => ?_, fun b hb => ?_, fun j cs1 hj => ?_, fun j v0 e0 rows0 hj => ?_, obj_same h he fun j o hj => by
    have hj' : upd X.bx k (.gcells v' e rows') j = .obj o := hj
    have e : j ≠ k := t_60
    rw [upd_ne _ _ _ _ e] at hj'
    refine ⟨hj', upd_ne _ _ _ _ e, fun hOj => ?_⟩;have : X.bl j ≠ X.w.heap.size := by intro e2; rw [e2, hfree] at hOj; cases hOj
    exact ⟨(hOne _ this).trans hOj, hne _ this⟩⟩, he⟩
  · have e : j ≠ k := by omega
    exact (upd_ne _ _ _ _ e).trans (h.dead j hj)
  · have hb' : (X.w.heap.push (Obj.cells (us' ++ rest').toArray ty (0, 0))).size ≤ b := hb
    rw [Array.size_push] at hb'
    rw [hOne b (by omega)]
    exact h.free b (by omega)
  · have hj' : upd X.bx k (.gcells v' e rows') j = .cells cs1 := hj
    have e : j ≠ k := t_60
    rw [upd_ne _ _ _ _ e] at hj'
    obtain ⟨g1, us1, ty1, g2, g3, g4⟩ := h.box j cs1 hj'
    have hbl : X'.bl j = X.bl j := upd_ne _ _ _ _ e
    have : X.bl j ≠ X.w.heap.size := by intro e2; rw [e2, hfree] at g1; cases g1
    rw [hbl, hOne _ this]
    exact ⟨g1, us1, ty1, (hne _ this).trans g2, RowRep.mono he _ _ g3, g4⟩
  · have hj' : upd X.bx k (.gcells v' e rows') j = .gcells v0 e0 rows0 := hj
    by_cases e1 : j = k
    · subst e1
      rw [upd_eq] at hj'; cases hj'
      have hbl : X'.bl j = X.w.heap.size := upd_eq _ _ _
      rw [hbl]
      refine ⟨hl, .inr ⟨upd_eq _ _ _, us', rest', ty, ?_, RowRep.mono he _ _ hr, hul, h1⟩⟩;show (X.w.heap.push _)[X.w.heap.size]? = _
      simp
    · rw [upd_ne _ _ _ _ e1] at hj'
      have hbl : X'.bl j = X.bl j := upd_ne _ _ _ _ e1
      obtain ⟨g1, g2⟩ := h.gbox j v0 e0 rows0 hj'
      refine ⟨g1, g2.imp id fun ⟨j1, us, rest, ty, j2, j3, j4, j5⟩ => ?_⟩;have : X.bl j ≠ X.w.heap.size := by intro e2; rw [e2, hfree] at j1; cases j1
      rw [hbl, hOne _ this]
      exact ⟨j1, us, rest, ty, (hne _ this).trans j2, RowRep.mono he _ _ j3, j4, j5⟩
theorem g_bare {n k v' e : Nat} {X : Ctx} (h : R n X) (hk : X.bx k = .dead ∨ ∃ v rows, X.bx k = .gcells v e rows ∧ v ≤ v') (hn : k < n) :
    R n { X with bx := upd X.bx k (.gcells v' e []) } ∧ Ext X { X with bx := upd X.bx k (.gcells v' e []) } := by
  have he : Ext X { X with bx := upd X.bx k (.gcells v' e []) } := by
    refine ⟨fun b o hs => ⟨hs, rfl⟩, fun j hj => ⟨?_, rfl⟩, fun j m hj => ⟨m, ?_, Nat.le_refl _, fun _ b st arr ty h1 h2 => ⟨h1, arr, h2, rfl⟩⟩, fun b hb => ⟨hb, rfl⟩, fun j v0 e0 rows0 hj => ?_, rfl, rfl, rfl, Nat.le_refl _⟩
    · have e : j ≠ k := by intro e; subst e; rcases hk with hk | ⟨v, rows, hk, _⟩ <;> (rw [hk] at hj; exact hj)
      show (upd X.bx k _ j).is
      rw [upd_ne _ _ _ _ e]; exact hj
    · have e : j ≠ k := by intro e; subst e; rcases hk with hk | ⟨v, rows, hk, _⟩ <;> (rw [hk] at hj; cases hj)
      exact (upd_ne _ _ _ _ e).trans hj
    · by_cases e1 : j = k
      · subst e1
        rcases hk with hk | ⟨v, rows, hk, hv⟩
        · rw [hk] at hj; cases hj
        · rw [hk] at hj; cases hj
          exact ⟨v', [], upd_eq _ _ _, hv, fun _ => ⟨rfl, fun hOj => ⟨hOj, fun us ty hu => ⟨us, hu, rfl⟩⟩⟩⟩
      · exact ⟨v0, rows0, (upd_ne _ _ _ _ e1).trans hj, Nat.le_refl _, fun _ => ⟨rfl, fun hOj => ⟨hOj, fun us ty hu => ⟨us, hu, rfl⟩⟩⟩⟩
  refine ⟨⟨fun j hj => ?_, h.free, fun j cs1 hj => ?_, fun j v0 e0 rows0 hj => ?_, obj_same h he fun j o hj => by
    have hj' : upd X.bx k (.gcells v' e []) j = .obj o := hj
    have e : j ≠ k := t_60
    rw [upd_ne _ _ _ _ e] at hj'
    exact ⟨hj', rfl, fun hOj => ⟨hOj, rfl⟩⟩⟩, he⟩
  · exact (upd_ne _ _ _ _ (by omega)).trans (h.dead j hj)
  · have hj' : upd X.bx k (.gcells v' e []) j = .cells cs1 := hj
    have e : j ≠ k := t_60
    rw [upd_ne _ _ _ _ e] at hj'
    obtain ⟨g1, us1, ty1, g2, g3, g4⟩ := h.box j cs1 hj'
    exact ⟨g1, us1, ty1, g2, RowRep.mono he _ _ g3, g4⟩
  · have hj' : upd X.bx k (.gcells v' e []) j = .gcells v0 e0 rows0 := hj
    by_cases e1 : j = k
    · subst e1
      rw [upd_eq] at hj'; cases hj'
      exact ⟨by simp, .inl rfl⟩
    · rw [upd_ne _ _ _ _ e1] at hj'
      obtain ⟨g1, g2⟩ := h.gbox j v0 e0 rows0 hj'
      exact ⟨g1, g2.imp id fun ⟨j1, us, rest, ty, j2, j3, j4, j5⟩ => ⟨j1, us, rest, ty, j2, RowRep.mono he _ _ j3, j4, j5⟩⟩
theorem g_freeze {n k v e : Nat} {X : Ctx} {rows : List (List V)} (h : R n X) (hk : X.bx k = .gcells v e rows) :
    ∃ X', X'.bx = upd X.bx k (.gcells (v + 1) e []) ∧ X'.bl = X.bl ∧ X'.w = X.w ∧ R n X' ∧ Ext X X' ∧ (rows = [] ∨ ∃ us rest ty, X.w.heap[X.bl k]? = some (.cells (us ++ rest).toArray ty (0, 0)) ∧ RowRep X' rows.flatten us ∧ us.length = rows.length * e ∧ (∀ x ∈ us, oneV x = true) ∧ X'.O (X.bl k) = .frz) := by
  have hkn : k < n := Nat.lt_of_not_le fun hn => by rw [h.dead k hn] at hk; cases hk
  by_cases hrows : rows = []
  · obtain ⟨t1, t2⟩ := g_bare (v' := v + 1) (e := e) h (.inr ⟨v, rows, hk, by omega⟩) hkn
    exact ⟨{ X with bx := upd X.bx k (.gcells (v + 1) e []) }, rfl, rfl, rfl, t1, t2, .inl hrows⟩
  obtain ⟨g1, g2⟩ := h.gbox k v e rows hk
  rcases g2 with g2 | ⟨hO, us, rest, ty, hh, j3, j4, j5⟩
  · exact absurd g2 hrows
  let X' : Ctx := { X with O := upd X.O (X.bl k) .frz, bx := upd X.bx k (.gcells (v + 1) e []) }
  have hOne : ∀ b, b ≠ X.bl k → X'.O b = X.O b := fun b hb => upd_ne _ _ _ _ hb
  have he : Ext X X' := by
    refine ⟨fun b o hs => ⟨?_, rfl⟩, fun j hj => ⟨?_, rfl⟩, fun j m hj => ⟨m, ?_, Nat.le_refl _, fun _ b st arr ty h1 h2 => ⟨?_, arr, h2, rfl⟩⟩, fun b hb => ⟨?_, rfl⟩, fun j v0 e0 rows0 hj => ?_, rfl, rfl, rfl, Nat.le_refl _⟩
    · have : b ≠ X.bl k := by intro e; subst e; rw [hO] at hs; exact hs
      rw [hOne b this]; exact hs
    · have e : j ≠ k := by intro e; subst e; rw [hk] at hj; exact hj
      show (upd X.bx k _ j).is
      rw [upd_ne _ _ _ _ e]; exact hj
    · have e : j ≠ k := by intro e; subst e; rw [hk] at hj; cases hj
      exact (upd_ne _ _ _ _ e).trans hj
    · have : b ≠ X.bl k := by intro e; subst e; rw [hO] at h1; cases h1
      rw [hOne b this]; exact h1
    · have : b ≠ X.bl k := by intro e; subst e; rw [hO] at hb; cases hb
      rw [hOne b this]; exact hb
    · by_cases e1 : j = k
      · subst e1
        rw [hk] at hj; cases hj
        exact ⟨v + 1, [], upd_eq _ _ _, Nat.le_succ _, fun hv => by omega⟩
      · refine ⟨v0, rows0, (upd_ne _ _ _ _ e1).trans hj, Nat.le_refl _, fun _ => ⟨rfl, fun hOj => ⟨?_, fun us ty hu => ⟨us, hu, rfl⟩⟩⟩⟩
        have : X.bl j ≠ X.bl k := by intro e2; rw [e2, hO] at hOj; cases hOj; exact e1 rfl
        exact (hOne _ this).trans hOj
  refine ⟨X', rfl, rfl, rfl, ⟨fun j hj => (upd_ne _ _ _ _ (by omega)).trans (h.dead j hj), fun b hb => ?_, fun j cs1 hj => ?_, fun j v0 e0 rows0 hj => ?_, obj_same h he fun j o hj => by
    have hj' : upd X.bx k (.gcells (v + 1) e []) j = .obj o := hj
    have e : j ≠ k := t_60
    rw [upd_ne _ _ _ _ e] at hj'
    refine ⟨hj', rfl, fun hOj => ?_⟩;have : X.bl j ≠ X.bl k := by intro e2; rw [e2, hO] at hOj; cases hOj; exact e rfl
    exact ⟨(hOne _ this).trans hOj, rfl⟩⟩, he, .inr ⟨us, rest, ty, hh, RowRep.mono he _ _ j3, j4, j5, upd_eq _ _ _⟩⟩
  · have : b ≠ X.bl k := by intro e; subst e; rw [h.free _ hb] at hO; cases hO
    exact (hOne b this).trans (h.free b hb)
  · have hj' : upd X.bx k (.gcells (v + 1) e []) j = .cells cs1 := hj
    have e : j ≠ k := t_60
    rw [upd_ne _ _ _ _ e] at hj'
    obtain ⟨g1, us1, ty1, g2, g3, g4⟩ := h.box j cs1 hj'
    have : X.bl j ≠ X.bl k := by intro e2; rw [e2, hO] at g1; cases g1; exact e rfl
    exact ⟨(hOne _ this).trans g1, us1, ty1, g2, RowRep.mono he _ _ g3, g4⟩
  · have hj' : upd X.bx k (.gcells (v + 1) e []) j = .gcells v0 e0 rows0 := hj
    by_cases e1 : j = k
    · subst e1
      rw [upd_eq] at hj'; cases hj'
      exact ⟨by simp, .inl rfl⟩
    · rw [upd_ne _ _ _ _ e1] at hj'
      obtain ⟨g1, g2⟩ := h.gbox j v0 e0 rows0 hj'
      refine ⟨g1, g2.imp id fun ⟨j1, us, rest, ty, j2, j3, j4, j5⟩ => ?_⟩;have : X.bl j ≠ X.bl k := by intro e2; rw [e2, hO] at j1; cases j1; exact e1 rfl
      exact ⟨(hOne _ this).trans j1, us, rest, ty, j2, RowRep.mono he _ _ j3, j4, j5⟩
section
variable {P : Program} {o : Oper} {t : Nat → V} {pre up : List (Nat × Box)} {val : V}
theorem gsl_at {n k ver q len e : Nat} {X : Ctx} {u : Value} {rows : List (List V)} (hR : R n X) (hv : VRep X (.gsl k ver q len e) u) (hk : X.bx k = .gcells ver e rows) (hl : q + len ≤ rows.length) (h0 : 0 < len) :
    ∃ c us rest ty, u = .slice (some ⟨X.bl k, q * e, none⟩) len c ∧ len ≤ c ∧ X.O (X.bl k) = .box k ∧ X.w.heap[X.bl k]? = some (.cells (us ++ rest).toArray ty (0, 0)) ∧ RowRep X rows.flatten us ∧ us.length = rows.length * e ∧ (∀ x ∈ us, oneV x = true) ∧ (∀ r ∈ rows, r.length = e) ∧ (q + c) * e ≤ (us ++ rest).length := by
  simp only [VRep] at hv
  obtain ⟨a, c, v', e0, rows', h1, h2, h3, h4, h5⟩ := hv
  rw [hk] at h3; cases h3
  rcases h5 rfl with rfl | ⟨rfl, g1, us0, ty0, g2, g3⟩
  · omega
  obtain ⟨r1, r2⟩ := hR.gbox k ver e rows hk
  rcases r2 with rfl | ⟨j1, us, rest, ty, j2, j3, j4, j5⟩
  · simp at hl; omega
  · rw [g2] at j2
    cases j2
    exact ⟨c, us, rest, _, h1, h2, g1, g2, j3, j4, j5, r1, by simpa using g3⟩
theorem rows_cut {us : List Value} {X : Ctx} {e : Nat} : ∀ {rows : List (List V)} (q m : Nat), RowRep X rows.flatten us → (∀ r ∈ rows, r.length = e) → RowRep X (((rows.drop q).take m).flatten) ((us.drop (q * e)).take (m * e)) := by
  intro rows q m h hl
  have e1 : ((rows.drop q).take m).flatten = (rows.flatten.drop (q * e)).take (m * e) := by
    rw [flat_take (rows.drop q) m (fun r hr => hl r (List.mem_of_mem_drop hr))]
    congr 1
    have : ∀ (rows : List (List V)) (q : Nat), (∀ r ∈ rows, r.length = e) → (rows.drop q).flatten = rows.flatten.drop (q * e) := by
      intro rows
      induction rows with
      | nil => intro q _; simp
      | cons r rows ih =>
        intro q hl
        cases q with
        | zero => simp
        | succ q =>
          have hr := hl r (List.mem_cons_self ..)
          rw [List.drop_succ_cons, List.flatten_cons, List.drop_append, List.drop_of_length_le (l := r) (by rw [hr, Nat.add_mul]; omega), List.nil_append, hr, show (q + 1) * e - e = q * e from t_126]
          exact ih q (fun r' hr' => hl r' (List.mem_cons_of_mem _ hr'))
    exact this rows q hl
  rw [e1]
  exact (h.drop _).take _
theorem step_index_g {ty el : TypeId} {x y : Operand} {e k ver q len : Nat} {kd : IntKind} {i : Int} {rows : List (List V)} (ho : o.op = .indexAddr ty x y) (hx : ev t x = .gsl k ver q len e) (hy : ev t y = .sc (.int kd i))
    (hu : P.underlying ty = some (.slice el)) (he : (P.info? el).map (·.size) = some e) (h0 : 0 ≤ i) (h1 : i < len) (hl : q + len ≤ rows.length) : StepOK P o t [(k, .gcells ver e rows)] [] (.gref k ver ((q + i.toNat) * e)) := by
  refine step_value fun n X ρ hR hop hpre => ?_
  have g1 := hop x t_63
  have g2 := hop y t_63
  rw [hx] at g1; rw [hy] at g2
  simp only [VRep] at g2
  have hk : X.bx k = .gcells ver e rows := hpre (k, .gcells ver e rows) (by simp)
  obtain ⟨c, us, rest, ty', h2, _⟩ := gsl_at hR g1 hk hl (by omega)
  refine ⟨_, exec_run (exec_indexAddr ho) (by rw [h2, g2]; exact run_indexAt_sl hu he h0 h1 X.w), ?_⟩;simp only [VRep];exact ⟨_, ver, e, rows, rfl, hk, Nat.le_refl _, fun _ => by rw [Nat.add_mul]⟩
theorem row_split {rows : List (List V)} {e i : Nat} {r : List V} (hl : ∀ r ∈ rows, r.length = e) (hi : rows[i]? = some r) : (rows.flatten.drop (i * e)).take e = r ∧ r.length = e ∧ i * e + e ≤ rows.flatten.length := by
  have hlt := (List.getElem?_eq_some_iff.1 hi).1
  have hr : r.length = e := hl r (List.mem_of_getElem? hi)
  have hf := flat_len hl
  have h2 : (i + 1) * e ≤ rows.length * e := Nat.mul_le_mul_right e hlt
  rw [Nat.add_mul] at h2
  refine ⟨?_, hr, by omega⟩;have key : ∀ (rows : List (List V)) (i : Nat), (∀ r ∈ rows, r.length = e) → rows[i]? = some r → (rows.flatten.drop (i * e)).take e = r := by
    intro rows
    induction rows with
    | nil => intro i _ hi; simp at hi
    | cons x rows ih =>
      intro i hl hi
      have hx := hl x (List.mem_cons_self ..)
      cases i with
      | zero => simp at hi; subst hi; rw [Nat.zero_mul, List.drop_zero, List.flatten_cons, List.take_append_of_le_length (by omega), List.take_of_length_le (by omega)]
      | succ i =>
        simp at hi
        rw [List.flatten_cons, List.drop_append, List.drop_of_length_le (by rw [hx, Nat.add_mul]; omega), List.nil_append, hx, show (i + 1) * e - e = i * e from t_126]
        exact ih i (fun r' hr' => hl r' (List.mem_cons_of_mem _ hr')) hi
  exact key rows i hl hi
theorem gref_at {n k ver o e : Nat} {X : Ctx} {u : Value} {rows : List (List V)} (hR : R n X) (hv : VRep X (.gref k ver o) u) (hk : X.bx k = .gcells ver e rows) (h0 : rows ≠ []) :
    ∃ us rest ty, u = .pointer (some ⟨X.bl k, o, none⟩) ∧ X.O (X.bl k) = .box k ∧ X.w.heap[X.bl k]? = some (.cells (us ++ rest).toArray ty (0, 0)) ∧ RowRep X rows.flatten us ∧ us.length = rows.length * e ∧ (∀ x ∈ us, oneV x = true) ∧ (∀ r ∈ rows, r.length = e) := by
  simp only [VRep] at hv
  obtain ⟨ad, v', e', rows', h1, h3, h4, h5⟩ := hv
  rw [hk] at h3; cases h3
  obtain ⟨r1, r2⟩ := hR.gbox k ver e rows hk
  rcases r2 with rfl | ⟨j1, us, rest, ty, j2, j3, j4, j5⟩
  · exact absurd rfl h0
  · rw [h5 rfl] at h1
    exact ⟨us, rest, ty, h1, j1, j2, j3, j4, j5, r1⟩
theorem rows_set_flat {e : Nat} : ∀ {rows : List (List V)} {i c : Nat} {r : List V} (ds : List V), (∀ r ∈ rows, r.length = e) → rows[i]? = some r → c + ds.length ≤ e → (rows.set i (setSeg r c ds)).flatten = rows.flatten.take (i * e + c) ++ ds ++ rows.flatten.drop (i * e + c + ds.length)
  | [], i, c, r, ds, hl, hi, hc => by simp at hi
  | x :: rows, i, c, r, ds, hl, hi, hc => by
    have hx := hl x (List.mem_cons_self ..)
    cases i with
    | zero =>
      simp at hi; subst hi
      simp only [List.set_cons_zero, List.flatten_cons, setSeg, Nat.zero_mul, Nat.zero_add]
      rw [List.take_append_of_le_length (by omega), List.drop_append_of_le_length (by omega)]
      simp
    | succ i =>
      simp at hi
      rw [List.set_cons_succ, List.flatten_cons, rows_set_flat ds (fun r' hr' => hl r' (List.mem_cons_of_mem _ hr')) hi hc, List.flatten_cons]
      rw [show (i + 1) * e + c = e + (i * e + c) from t_126, List.take_append, List.take_of_length_le (l := x) (by omega), hx, show e + (i * e + c) - e = i * e + c by omega, List.drop_append, List.drop_of_length_le (l := x) (by omega), List.nil_append, hx, show e + (i * e + c) + ds.length - e = i * e + c + ds.length by omega]
      simp
theorem setSeg_len {α : Type} {cs ds : List α} {c : Nat} (h : c + ds.length ≤ cs.length) : (setSeg cs c ds).length = cs.length := by simp [setSeg]; omega
theorem rows_set_lens {e : Nat} {rows : List (List V)} {i : Nat} {r : List V} (hl : ∀ r ∈ rows, r.length = e) (hr : r.length = e) : ∀ x ∈ rows.set i r, x.length = e := by
  intro x hx
  rcases List.mem_or_eq_of_mem_set hx with h | h
  · exact hl x h
  · rw [h]; exact hr
theorem step_store_g {ty : TypeId} {x y : Operand} {k ver q e i c m : Nat} {rows : List (List V)} {r : List V} {v : V} (ho : o.op = .store ty x y) (hx : ev t x = .gref k ver q) (hy : ev t y = v) (hs : v.stor = true) (ht : (P.info? ty).map (·.size) = some m) (hm : v.cs.length = m)
    (hi : rows[i]? = some r) (hc : c + m ≤ e) (hq : q = i * e + c) : StepOK P o t [(k, .gcells ver e rows)] [(k, .gcells ver e (rows.set i (setSeg r c v.cs)))] .junk := by
  intro n X a next Q hR hop hpre hup hk
  have h1 := hop x t_63
  have h2 := hop y t_63
  rw [hx] at h1; rw [hy] at h2
  have hb : X.bx k = .gcells ver e rows := hpre (k, .gcells ver e rows) (by simp)
  obtain ⟨us, rest, ty', g0, hO, h4, h5, h6, h7, h8⟩ := gref_at hR h1 hb (by rintro rfl; simp at hi)
  obtain ⟨vs, g1, g2, g3⟩ := rep_cells h2 hs
  have hvl : vs.length = m := by rw [← g2.length]; exact hm
  obtain ⟨s1, s2, s3⟩ := row_split h8 hi
  have hfl := flat_len h8
  obtain ⟨w', r1, r2, r3, r4, r5, r6, r7⟩ := run_storeCells (P := P) (b := X.bl k) vs q 0 X.w (us ++ rest) ty' h4 (by simp; omega) g3
  have hrun : (execOp a.eval o).run P X.w = .ok .skip w' := by
    rw [exec_store ho, g0]
    have hsz : (Array.size (a.eval y).cells) = m := by rw [g1]; simpa using hvl
    simp only [Instr.storeAt, Instr.sureAddr, storeVar, Sem.run_bind, Sem.run_pure, Result.andThen_ok, run_size ht, hsz, ne_eq, not_true_eq_false, if_false]
    rw [g1]
    simp only [r1, Result.andThen_ok]
  have e1 : (us ++ rest).take (q + 0) ++ vs ++ (us ++ rest).drop (q + 0 + vs.length) = (us.take q ++ vs ++ us.drop (q + m)) ++ rest := by
    rw [Nat.add_zero, hvl, List.take_append_of_le_length (by omega), List.drop_append_of_le_length (by omega)]; simp
  rw [e1] at r7
  have hnew : RowRep X (rows.set i (setSeg r c v.cs)).flatten (us.take q ++ vs ++ us.drop (q + m)) := by
    rw [rows_set_flat v.cs h8 hi (by omega), ← hq, hm]
    exact ((h5.take q).append g2).append (h5.drop (q + m))
  have hone : ∀ x ∈ us.take q ++ vs ++ us.drop (q + m), oneV x = true := by
    intro x hx
    rcases List.mem_append.1 hx with hx | hx
    · rcases List.mem_append.1 hx with hx | hx
      · exact h7 x (List.mem_of_mem_take hx)
      · exact g3 x hx
    · exact h7 x (List.mem_of_mem_drop hx)
  obtain ⟨e2, e3⟩ := g_write (v' := ver) hR hb hO (Nat.le_refl _) rfl h4 r2 r3 r4 r5 r6 r7 (by simp; omega) (rows_set_lens h8 ((setSeg_len (by omega)).trans s2)) hnew (by simp; omega) hone
  unfold Oper.wp
  rw [hrun]
  exact hk _ undef rfl e2 e3 (by simp [VRep])
theorem setSeg_all {α : Type} {cs ds : List α} (h : ds.length = cs.length) : setSeg cs 0 ds = ds := by
  unfold setSeg; rw [List.drop_of_length_le (by omega)]; simp
theorem step_store_gR {ty : TypeId} {x y : Operand} {k ver q e i m : Nat} {rows : List (List V)} {r cs : List V} (ho : o.op = .store ty x y) (hx : ev t x = .gref k ver q) (hy : ev t y = .agg cs) (ht : AggT P ty m)
    (hi : rows[i]? = some r) (hr : r.length = e) (hc : cs.length = e) (hme : m = e) (hq : q = i * e) : StepOK P o t [(k, .gcells ver e rows)] [(k, .gcells ver e (rows.set i cs))] .junk := by
  have := step_store_g (e := e) (c := 0) ho hx hy rfl ht.2 (by show cs.length = m; omega) hi (by omega) (by omega)
  rw [show (V.agg cs).cs = cs from rfl, setSeg_all (by omega)] at this
  exact this
theorem step_append_g {ty el ty2 : TypeId} {tys : Array TypeId} {e k ver len : Nat} {x y : Operand} {vy : V} {rows ys xs' : List (List V)} (ho : o.op = .call { callee := .builtin .append, args := #[x, y], argTypes := tys })
    (h0 : tys[0]? = some ty) (h1 : tys[1]? = some ty2) (hu : P.underlying ty = some (.slice el)) (hu2 : ∃ d, P.underlying ty2 = some d ∧ ∀ k, d ≠ .int k) (he : ElemT P el e)
    (hx : ev t x = .gsl k ver 0 len e) (hy : ev t y = vy) (hvy : Gives vy e ys pre) (hlr : len ≤ rows.length) (hb : len + ys.length ≤ 1073741824) (hxs : rows.take len ++ ys = xs') :
    StepOK P o t ((k, .gcells ver e rows) :: pre) [(k, .gcells (ver + 1) e xs')] (.gsl k (ver + 1) 0 (len + ys.length) e) := by
  subst hxs
  intro n X a next Q hR hop hpre hup hk
  have g1 := hop x t_82
  have g2 := hop y t_82
  rw [hx] at g1; rw [hy] at g2
  have hkd : X.bx k = .gcells ver e rows := hpre (k, .gcells ver e rows) (by simp)
  have hkn : k < n := hup (k, .gcells (ver + 1) e (rows.take len ++ ys)) (by simp)
  obtain ⟨l1, l2, new, l3, l4, l5, l6⟩ := hvy P n X _ hR g2 (fun p hp => hpre p (List.mem_cons_of_mem _ hp))
  have l7 : ∀ d, (Builtin.firstCells e ys.length (a.eval y)).run P { X.w with drawn := d } = .ok new.toArray { X.w with drawn := d } := fun d => t_125
  have hex : execOp a.eval o = (do pure (.value (← Builtin.append_ tys o.type #[a.eval x, a.eval y]))) := by
    rw [exec_builtin ho]
    have e1 : (#[x, y].map a.eval : Array Value) = #[a.eval x, a.eval y] := by simp
    rw [e1]; rfl
  obtain ⟨r1, r2⟩ := hR.gbox k ver e rows hkd
  have hg1 := g1
  simp only [VRep, Nat.zero_mul, Nat.zero_add] at g1
  obtain ⟨ad, cap, v', e0, rows', hs, hcap, hbx, hver, hcase⟩ := g1
  rw [hkd] at hbx; cases hbx
  have hcase := hcase rfl
  -- what it holds
  have hold : ∃ old, RowRep X (rows.take len).flatten old ∧ old.length = len * e ∧ (∀ x ∈ old, oneV x = true) ∧ ∀ d, (Builtin.firstCells e len (.slice ad len cap)).run P { X.w with drawn := d } = .ok old.toArray { X.w with drawn := d } := by
    by_cases hl0 : len = 0
    · subst hl0
      refine ⟨[], by simp [RowRep], by simp, by simp, fun d => ?_⟩
      cases ad with
      | none => rfl
      | some ad => simp [Builtin.firstCells, loadCells, loadCellsFrom]
    · obtain ⟨c, us, rest, ty', k1, k2, k3, k4, k5, k6, k7, k8, k9⟩ := gsl_at hR hg1 hkd (by omega) (by omega)
      rw [hs] at k1
      cases k1
      have hrr := rows_cut 0 len k5 k8
      rw [List.drop_zero, Nat.zero_mul, List.drop_zero] at hrr
      have hle : len * e ≤ rows.length * e := Nat.mul_le_mul_right e hlr
      refine ⟨us.take (len * e), hrr, by simp; omega, fun x hx => k7 x (List.mem_of_mem_take hx), fun d => ?_⟩;have := run_loadCells_list (P := P) { X.w with drawn := d } ⟨X.bl k, 0 * e, none⟩ (us.take (len * e)) (fun j v hj => by
        rw [addr_add]
        show X.w.cell? _ = _
        rw [cell_some k4, Nat.zero_mul, Nat.zero_add]
        rw [List.getElem?_take] at hj
        split at hj
        · rw [List.getElem?_append_left (List.getElem?_eq_some_iff.1 hj).1]; exact hj
        · cases hj)
      have hll : (us.take (len * e)).length = len * e := by simp; omega
      rw [hll] at this
      exact this
  obtain ⟨old, o1, o2, o3, o4⟩ := hold
  have hll : ∀ r ∈ rows.take len ++ ys, r.length = e := fun r hr => (List.mem_append.1 hr).elim (fun h => r1 r (List.mem_of_mem_take h)) (l2 r)
  have hnl : (rows.take len ++ ys).length = len + ys.length := by simp; omega
  have h11 : ∀ x ∈ old ++ new, oneV x = true := fun x hx => (List.mem_append.1 hx).elim (o3 x) (l5 x)
  have hrr : RowRep X (rows.take len ++ ys).flatten (old ++ new) := by rw [List.flatten_append]; exact o1.append l3
  have hul : (old ++ new).length = (rows.take len ++ ys).length * e := by rw [hnl, List.length_append, o2, l4, Nat.add_mul]
  have key : ∃ X' u', (Builtin.append_ tys o.type #[a.eval x, a.eval y]).run P X.w = .ok u' X'.w ∧ X'.bx = upd X.bx k (.gcells (ver + 1) e (rows.take len ++ ys)) ∧ R n X' ∧ Ext X X' ∧ VRep X' (.gsl k (ver + 1) 0 (len + ys.length) e) u' := by
    rw [hs]
    by_cases hroom : len + ys.length ≤ cap
    · by_cases hys : ys.length = 0
      · have hy0 : ys = [] := List.length_eq_zero_iff.1 hys
        subst hy0
        have hnew : new = [] := t_113
        subst hnew
        by_cases hl0 : len = 0
        · subst hl0
          obtain ⟨t1, t2⟩ := g_bare (v' := ver + 1) (e := e) hR (.inr ⟨ver, rows, hkd, by omega⟩) hkn
          refine ⟨{ X with bx := upd X.bx k (.gcells (ver + 1) e []) }, _, run_append_room (w' := X.w) h0 h1 hu hu2 he.size l1 hroom o.type (l7 X.w.drawn) ?_, by simp, t1, t2, ?_⟩
          · cases ad with
            | none => rfl
            | some ad => simp [storeCells]
          · simp only [VRep]
            refine ⟨ad, cap, ver + 1, e, [], rfl, by simp, upd_eq _ _ _, Nat.le_refl _, fun _ => ?_⟩
            simpa using hcase
        · obtain ⟨c, us, rest, ty', k1, k2, k3, k4, k5, k6, k7, k8, k9⟩ := gsl_at hR hg1 hkd (by omega) (by omega)
          rw [hs] at k1; cases k1
          have hle : len * e ≤ rows.length * e := Nat.mul_le_mul_right e hlr
          have hrr2 := rows_cut 0 len k5 k8
          rw [List.drop_zero, Nat.zero_mul, List.drop_zero] at hrr2
          obtain ⟨t1, t2⟩ := g_write (v' := ver + 1) (rows' := rows.take len) (us' := us.take (len * e)) (rest' := us.drop (len * e) ++ rest) (w' := X.w) hR hkd k3 (by omega) rfl k4 rfl rfl rfl rfl (fun _ _ => rfl) (by rw [k4, ← List.append_assoc, List.take_append_drop]) (by simp; omega) (fun r hr => k8 r (List.mem_of_mem_take hr)) hrr2 (by rw [List.length_take, List.length_take, k6, Nat.min_eq_left hle, Nat.min_eq_left hlr]) (fun x hx => k7 x (List.mem_of_mem_take hx))
          rw [List.append_nil]
          refine ⟨{ X with bx := upd X.bx k (.gcells (ver + 1) e (rows.take len)) }, _, run_append_room (w' := X.w) h0 h1 hu hu2 he.size l1 hroom o.type (l7 X.w.drawn) ?_, rfl, t1, t2, ?_⟩
          · simp [storeCells]
          · simp only [VRep]
            refine ⟨_, cap, ver + 1, e, rows.take len, rfl, by simpa using hcap, upd_eq _ _ _, Nat.le_refl _, fun _ => ?_⟩;rcases hcase with h | h
            · exact .inl h
            · exact .inr t_123
      · rcases hcase with rfl | ⟨rfl, hO, us0, ty0, hh0, hcz⟩
        · omega
        · have hcape : (len + ys.length) * e ≤ cap * e := Nat.mul_le_mul_right e hroom
          rw [Nat.add_mul] at hcape
          obtain ⟨w', q1, q2, q3, q4, q5, q6, q7⟩ := run_storeCells (P := P) (b := X.bl k) new (len * e) 0 X.w us0.toList ty0 (by simpa using hh0) (by simp; omega) l5
          rw [Nat.add_zero] at q7
          -- the old cells are the block's first
          have hfirst : us0.toList.take (len * e) = old := by
            by_cases hl0 : len = 0
            · subst hl0
              have : old = [] := List.length_eq_zero_iff.1 (by simpa using o2)
              simp [this]
            · have hx0 := run_loadCells_list (P := P) { X.w with drawn := X.w.drawn } ⟨X.bl k, 0, none⟩ (us0.toList.take (len * e)) (fun j v hj => by
                rw [addr_add]
                show X.w.cell? _ = _
                rw [cell_some (us := us0.toList) (ty := ty0) (fr := (0, 0)) (by simpa using hh0), Nat.zero_add]
                rw [List.getElem?_take] at hj
                split at hj
                · exact hj
                · cases hj)
              have hlz : (us0.toList.take (len * e)).length = len * e := by simp; omega
              rw [hlz] at hx0
              have hx1 := o4 X.w.drawn
              have hx2 : (Builtin.firstCells e len (.slice (some ⟨X.bl k, 0, none⟩) len cap)) = loadCells ⟨X.bl k, 0, none⟩ (len * e) := rfl
              rw [hx2, hx0] at hx1
              have : (us0.toList.take (len * e)).toArray = old.toArray := by
                injection hx1
              simpa using congrArg Array.toList this
          have hlast : us0.toList.take (len * e) ++ new ++ us0.toList.drop (len * e + new.length) = (old ++ new) ++ us0.toList.drop (len * e + new.length) := by rw [hfirst]
          rw [hlast] at q7
          obtain ⟨t1, t2⟩ := g_write (v' := ver + 1) (us := us0) (ty := ty0) hR hkd hO (by omega) rfl hh0 q2 q3 q4 q5 q6 q7 (by simp [o2, l4]; omega) hll hrr hul h11
          refine ⟨_, _, run_append_room (w' := w') h0 h1 hu hu2 he.size l1 hroom o.type (l7 X.w.drawn) ?_, rfl, t1, t2, ?_⟩
          · show (storeCells ((⟨X.bl k, 0, none⟩ : Addr).add (len * e)) new).run P X.w = _
            rw [addr_add, Nat.zero_add]; exact q1
          · simp only [VRep, Nat.zero_mul, Nat.zero_add]
            refine ⟨_, cap, ver + 1, e, _, rfl, hroom, upd_eq _ _ _, Nat.le_refl _, fun _ => .inr ⟨rfl, hO, _, ty0, q7, ?_⟩⟩
            simp [o2, l4]; omega
    · obtain ⟨d, c, rest, hc, hrl, hrun⟩ := run_append_new (P := P) (w := X.w) (a := ad) (cap := cap) h0 h1 hu hu2 he l1 (by omega) hb o.type o4 l7
      obtain ⟨X', x1, x2, x3, x4, x5, x6⟩ := g_new (k := k) (v' := ver + 1) (e := e) (rest' := rest) (ty := el) hR (.inr ⟨ver, rows, hkd, by omega⟩) hkn d hll hrr hul h11
      refine ⟨X', _, by rw [hrun, ← x2], x1, x5, x6, ?_⟩;simp only [VRep, Nat.zero_mul, Nat.zero_add];refine ⟨_, c, ver + 1, e, _, rfl, hc, by rw [x1, upd_eq], Nat.le_refl _, fun _ => .inr ⟨by rw [x3], by rw [x3]; exact x4, (old ++ new ++ rest).toArray, el, by rw [x3, x2]; show (X.w.heap.push _)[X.w.heap.size]? = _; simp, ?_⟩⟩;simp only [List.size_toArray, List.length_append, o2, l4, hrl];rw [← Nat.add_mul, ← Nat.add_mul];rw [show len + ys.length + (c - (len + ys.length)) = c by omega]
      omega
  obtain ⟨X', u', k1, k2, k3, k4, k5⟩ := key
  unfold Oper.wp
  rw [exec_run hex k1]
  exact hk X' u' k2 k3 k4 k5
end
section
variable {P : Program} {B : Bas} {N : Nat} {Q : Exit → S → Prop} {l : List (Nat × V)} {n : Nat} {bx : Nat → Box}
theorem g_frozen {n0 k ver q len e : Nat} {X : Ctx} {rows ys : List (List V)} (hR : R n0 X) (hk : X.bx k = .gcells ver e rows) (hl : q + len ≤ rows.length) (hy : (rows.drop q).take len = ys) :
    ∃ X', X'.bx = upd X.bx k (.gcells (ver + 1) e []) ∧ X'.w = X.w ∧ X'.bl = X.bl ∧ R n0 X' ∧ Ext X X' ∧ ∀ u, VRep X (.gsl k ver q len e) u → VRep X' (.sl e ys) u := by
  obtain ⟨X', x1, x2, x3, x4, x5, x6⟩ := g_freeze hR hk
  refine ⟨X', x1, x3, x2, x4, x5, fun u hu => ?_⟩;have hyl : ys.length = len := by rw [← hy]; simp; omega
  by_cases h0 : len = 0
  · subst h0
    have hy0 : ys = [] := List.length_eq_zero_iff.1 hyl
    subst hy0
    simp only [VRep] at hu ⊢
    obtain ⟨a, c, v', e0, rows', rfl, h2, _⟩ := hu
    exact ⟨a, c, rfl, Nat.zero_le _, .inl trivial⟩
  obtain ⟨c, us, rest, ty, g1, g2, g3, g4, g5, g6, g7, g8, g9⟩ := gsl_at hR hu hk hl (by omega)
  rcases x6 with rfl | ⟨us', rest', ty', k1, k2, k3, k4, k5⟩
  · simp at hl; omega
  simp only [VRep]
  refine ⟨_, c, by rw [hyl]; exact g1, by omega, .inr ⟨X.bl k, q * e, rfl, ?_⟩⟩;have hrr := rows_cut q len k2 g8;rw [hy] at hrr;refine rowsAt_of hrr (fun r hr => g8 r (List.mem_of_mem_drop (List.mem_of_mem_take (hy ▸ hr)))) (fun j v hj => ?_) (fun j _ => by rw [k5]; trivial) (fun x hx => k4 x (List.mem_of_mem_drop (List.mem_of_mem_take hx)));rw [x3, cell_some k1];rw [List.getElem?_take] at hj
  split at hj
  · rw [List.getElem?_drop] at hj
    rw [List.getElem?_append_left (List.getElem?_eq_some_iff.1 hj).1]; exact hj
  · cases hj
theorem runs_freeze {c : Code} {d e k ver q len : Nat} {rows ys : List (List V)} (hd : lk l d = some (.gsl k ver q len e)) (hk : bx k = .gcells ver e rows) (hl : q + len ≤ rows.length) (hy : (rows.drop q).take len = ys) (hr : Runs P B N c ⟨mk ((d, .sl e ys) :: l), n, upd bx k (.gcells (ver + 1) e [])⟩ Q) : Runs P B N c ⟨mk l, n, bx⟩ Q := by
  intro X a hs
  obtain ⟨X', x1, x2, x3, x4, x5, x6⟩ := g_frozen hs.rr (by rw [hs.bx]; exact hk) hl hy
  rw [← x2]
  refine hr X' a ⟨x4, by rw [x1, show X.bx = bx from hs.bx], fun i => ?_, hs.N, hs.defers.mono x5 rfl, hs.ext.trans x5⟩
  by_cases hi : i = d
  · subst hi
    have h1 := hs.t i
    simp only at h1
    rw [lk_mk hd] at h1
    simp only [mk, upd_eq]
    exact x6 _ h1
  · simp only [mk, upd_ne _ _ _ _ hi]
    exact VRep.mono x5 _ _ (hs.t i)
end
end Go.Vm
namespace Go.Vm
section
variable {P : Program} {B : Bas} {N : Nat} {Q : Exit → S → Prop} {ops : Array Oper} {L : List Oper} {o : Oper} {l : List (Nat × V)} {n : Nat} {bx : Nat → Box} {acc : List Ac}
theorem rl3 {pre : List (Nat × Box)} {d k k' k2 : Nat} {b b' b2 : Box} {v : V} (hg : GuardOK N ops l o) (hd : o.dst = some d) (hN : Nat.blt d N = true) (hs : StepOK P o (mk l) pre [(k, b), (k', b'), (k2, b2)] v) (hp : PreOK bx pre) (hk : k < n) (hk' : k' < n) (hk2 : k2 < n) (h : RunsL P B N ops L ⟨mk ((d, v) :: l), n, upd (upd (upd bx k b) k' b') k2 b2⟩ Q) : RunsL P B N ops (o :: L) ⟨mk l, n, bx⟩ Q :=
  rl_any hg (by rw [hd]; exact hN) hs hp (by intro p hp; simp only [List.mem_cons, List.not_mem_nil, or_false] at hp; rcases hp with rfl | rfl | rfl <;> assumption) (by rw [hd]; exact h)
theorem rl4 {pre : List (Nat × Box)} {d k k' k2 k3 : Nat} {b b' b2 b3 : Box} {v : V} (hg : GuardOK N ops l o) (hd : o.dst = some d) (hN : Nat.blt d N = true) (hs : StepOK P o (mk l) pre [(k, b), (k', b'), (k2, b2), (k3, b3)] v) (hp : PreOK bx pre) (hk : k < n) (hk' : k' < n) (hk2 : k2 < n) (hk3 : k3 < n) (h : RunsL P B N ops L ⟨mk ((d, v) :: l), n, upd (upd (upd (upd bx k b) k' b') k2 b2) k3 b3⟩ Q) : RunsL P B N ops (o :: L) ⟨mk l, n, bx⟩ Q :=
  rl_any hg (by rw [hd]; exact hN) hs hp (by intro p hp; simp only [List.mem_cons, List.not_mem_nil, or_false] at hp; rcases hp with rfl | rfl | rfl | rfl <;> assumption) (by rw [hd]; exact h)
theorem rl_know {d : Nat} {b c : Bool} (hb : lk l d = some (.sc (.bool b))) (hc : b = c) (h : RunsL P B N ops L ⟨mk ((d, .sc (.bool c)) :: l), n, bx⟩ Q) : RunsL P B N ops L ⟨mk l, n, bx⟩ Q := by
  refine rl_bool hb (fun h1 => ?_) (fun h1 => ?_)
  · rw [← h1, hc]; exact h
  · rw [← h1, hc]; exact h
theorem dl_know {d : Nat} {b c : Bool} (hb : lk l d = some (.sc (.bool b))) (hc : b = c) (h : DrawL P N n ops Q L (mk ((d, .sc (.bool c)) :: l)) bx acc) : DrawL P N n ops Q L (mk l) bx acc := by
  refine dl_bool hb (fun h1 => ?_) (fun h1 => ?_)
  · rw [← h1, hc]; exact h
  · rw [← h1, hc]; exact h
end
section
variable {P : Program} {o : Oper} {ty ty2 : TypeId} {x y : Operand} {k yk : IntKind} {a b r : Int} {t : Nat → V} {l : List (Nat × V)}
theorem step_subw (ho : o.op = .binOp .sub ty x y ty2) (hx : ev t x = .sc (.int k a)) (hy : ev t y = .sc (.int k b)) (h : k.wrap (a - b) = r) : StepOK P o t [] [] (.sc (.int k r)) :=
  step_binOp ho hx hy (fun w => by rw [← h]; cases k <;> rfl)
theorem step_convw {k' : IntKind} (ho : o.op = .convert ty ty2 x) (hx : lko l x = some (.sc (.int k a))) (h1 : P.underlying ty = some (.int k)) (h2 : P.underlying ty2 = some (.int k')) (h : k'.wrap a = r) : StepOK P o (mk l) [] [] (.sc (.int k' r)) := h ▸ step_conv ho hx h1 h2
theorem run_equal_bool (hu : P.underlying ty = some .bool) (p q : Bool) (w : World) : (Op.equal ty (.bool p) (.bool q)).run P w = .ok (p == q) w := by
  have heq : ∀ d, (Op.equalIn (d + 1) ty (.bool p) (.bool q)).run P w = .ok (p == q) w := by
    intro d
    simp only [Op.equalIn, Sem.run_bind, run_under hu, Result.andThen_ok]
    rfl
  exact heq 9999
theorem step_neqb {p q : Bool} (ho : o.op = .binOp .neq ty x y ty2) (hx : ev t x = .sc (.bool p)) (hy : ev t y = .sc (.bool q)) (hu : P.underlying ty = some .bool) : StepOK P o t [] [] (.sc (.bool (!(p == q)))) :=
  step_binOp ho hx hy (fun w => by
    have e1 : (eqGuard .neq ty x y (.bool p) (.bool q)) = pure () := rfl
    have e2 : (binOp .neq ty (.bool p) (.bool q)) = (do pure (.bool (!(← Op.equal ty (.bool p) (.bool q))))) := rfl
    rw [Sem.run_bind, e1, e2]
    simp only [Sem.run_bind, Sem.run_pure, Result.andThen_ok, run_equal_bool hu])
end
end Go.Vm
namespace Go.Vm
section
variable {P : Program} {o : Oper} {t : Nat → V}
end
end Go.Vm
namespace Go.Vm
section
variable {P : Program} {o : Oper} {t : Nat → V}
end
end Go.Vm
set_option linter.unusedVariables false
set_option linter.unusedSimpArgs false
namespace Go.Vm
def bV (x : Int) : V := .sc (.int .u8 x)
def bytesV (xs : List Int) : List (List V) := xs.map fun x => [bV x]
def Byts (b : List Int) : Prop := ∀ x ∈ b, 0 ≤ x ∧ x < 256
def sB (s : ByteArray) : List Int := s.data.toList.map fun b => (b.toNat : Int)
def bS (xs : List Int) : ByteArray := ⟨(xs.map fun x => UInt8.ofNat x.toNat).toArray⟩
theorem sB_len (s : ByteArray) : (sB s).length = s.size := by unfold sB; rw [List.length_map, Array.length_toList]; rfl
theorem sB_bytes (s : ByteArray) : Byts (sB s) := by
  intro x hx
  obtain ⟨b, _, rfl⟩ := List.mem_map.1 hx
  have := b.toNat_lt
  omega
theorem bS_sB (s : ByteArray) : bS (sB s) = s := by
  apply Go.WideShapes.bytes_inj
  simp [bS, sB, Function.comp_def]
theorem bytesV_app (a b : List Int) : bytesV a ++ bytesV b = bytesV (a ++ b) := by simp [bytesV]
theorem bytesV_len (a : List Int) : (bytesV a).length = a.length := by simp [bytesV]
theorem bytesV_flat (xs : List Int) : (bytesV xs).flatten = xs.map bV := by
  unfold bytesV
  induction xs with
  | nil => rfl
  | cons x xs ih => rw [List.map_cons, List.flatten_cons, ih]; rfl
theorem bytesV_row (xs : List Int) : ∀ r ∈ bytesV xs, r.length = 1 := by
  intro r hr; obtain ⟨x, _, rfl⟩ := List.mem_map.1 hr; rfl
section
variable {P : Program} {o : Oper} {t : Nat → V} {pre up : List (Nat × Box)} {val : V} {l : List (Nat × V)}
theorem rowRep_bytes {X : Ctx} (xs : List Int) : RowRep X (xs.map bV) (xs.map fun x => Value.int .u8 x) := by
  induction xs with
  | nil => simp [RowRep]
  | cons x xs ih => simp only [List.map_cons, RowRep]; exact ⟨_, _, rfl, by simp [bV, VRep], ih⟩
theorem one_bytes (xs : List Int) : ∀ u ∈ xs.map (fun x => Value.int .u8 x), oneV u = true := by
  intro u hu; obtain ⟨x, _, rfl⟩ := List.mem_map.1 hu; rfl
theorem gives_str (s : ByteArray) : Gives (.sc (.string s)) 1 (bytesV (sB s)) [] := by
  intro P n X u hR hv _
  simp only [VRep] at hv
  subst hv
  have hl : (bytesV (sB s)).length = s.size := by rw [bytesV_len, sB_len]
  refine ⟨fun w => by rw [hl]; rfl, bytesV_row _, (sB s).map fun x => Value.int .u8 x, by rw [bytesV_flat]; exact rowRep_bytes _, by rw [List.length_map, sB_len, hl]; omega, one_bytes _, fun d j hj => ?_⟩;rw [hl] at hj;have e : ((s.extract 0 j).data.map fun b => Value.int .u8 b.toNat) = (((sB s).map fun x => Value.int .u8 x).take (j * 1)).toArray := by
    apply Array.toList_inj.1
    rw [Nat.mul_one, ← List.map_take]
    simp only [sB, ByteArray.data_extract, Array.toList_map, Array.toList_extract, ← List.map_take, List.map_map]
    simp [List.extract, Function.comp_def]
  show (Builtin.firstCells 1 j (.string s)).run P _ = _
  simp only [Builtin.firstCells, Sem.run_pure, e]
theorem run_b2s {w : World} {a : Option Addr} {len c : Nat} {xs : List Int} (hl : xs.length = len) (h : len = 0 ∨ ∃ ad, a = some ad ∧ (loadCells ad len).run P w = .ok (xs.map fun x => Value.int .u8 x).toArray w) : (Conv.bytesToString (.slice a len c)).run P w = .ok (.string (bS xs)) w := by
  have loop : ∀ (ys : List Int) (s : ByteArray), (forIn (m := Sem) (ys.map fun x => Value.int .u8 x) s fun c s => match c with
      | .int .u8 n => pure (.yield (s.push (UInt8.ofNat n.toNat)))
      | _ => do
        stuck "bytesToString: byte expected"
        pure (.yield s)).run P w = .ok ⟨s.data ++ (bS ys).data⟩ w := by
    intro ys
    induction ys with
    | nil => intro s; simp [bS]
    | cons y ys ih =>
      intro s
      simp only [List.map_cons, List.forIn_cons, Sem.run_bind, Sem.run_pure, Result.andThen_ok]
      rw [ih]
      congr 2
      simp [bS, ByteArray.push, ← Array.append_singleton]
  cases a with
  | none =>
    rcases h with h | ⟨ad, h, _⟩
    · subst h
      have : xs = [] := List.length_eq_zero_iff.1 hl
      subst this
      rfl
    · cases h
  | some ad =>
    have hld : (loadCells ad len).run P w = .ok (xs.map fun x => Value.int .u8 x).toArray w := by
      rcases h with h | ⟨ad', h, h2⟩
      · subst h
        have : xs = [] := List.length_eq_zero_iff.1 hl
        subst this
        simp [loadCells, loadCellsFrom]
      · cases h; exact h2
    have := loop xs ByteArray.empty
    simp only [Conv.bytesToString, Sem.run_bind, hld, Result.andThen_ok, Array.forIn_toList, List.forIn_toArray]
    erw [this]
    show Result.ok (Value.string ⟨#[] ++ (bS xs).data⟩) w = _
    rw [Array.empty_append]
theorem step_b2s {ty ty2 el : TypeId} {x : Operand} {v : V} {xs : List Int} (ho : o.op = .convert ty ty2 x) (hx : ev t x = v) (hg : Gives v 1 (bytesV xs) pre) (hb : Byts xs) (hu : P.underlying ty = some (.slice el)) (hu2 : P.underlying ty2 = some .string) (he : P.underlying el = some (.int .u8)) (hsl : ∀ X u, VRep X v u → ∃ a c, u = .slice a xs.length c) : StepOK P o t pre [] (.sc (.string (bS xs))) := by
  refine step_value fun n X ρ hR hop hpre => ?_
  have h1 := hop x t_63
  rw [hx] at h1
  obtain ⟨l1, l2, us, l3, l4, l5, l6⟩ := hg P n X _ hR h1 hpre
  obtain ⟨a, c, hs⟩ := hsl X _ h1
  refine ⟨.string (bS xs), exec_run (exec_convert ho) ?_, by simp [VRep]⟩;have hus : us = xs.map fun x => Value.int .u8 x := by
    rw [bytesV_flat] at l3
    have : ∀ (ys : List Int) (vs : List Value), RowRep X (ys.map bV) vs → vs = ys.map fun x => Value.int .u8 x := by
      intro ys
      induction ys with
      | nil => intro vs h; simpa [RowRep] using h
      | cons y ys ih =>
        intro vs h
        simp only [List.map_cons, RowRep] at h
        obtain ⟨u, us', rfl, g1, g2⟩ := h
        simp only [bV, VRep] at g1
        rw [g1, ih us' g2]; rfl
    exact this xs us l3
  have hrun : (Conv.bytesToString (ρ x)).run P X.w = .ok (.string (bS xs)) X.w := by
    rw [hs]
    refine run_b2s rfl ?_
    by_cases h0 : xs.length = 0
    · exact .inl h0
    · refine .inr ?_
      have h6 := l6 X.w.drawn (bytesV xs).length (Nat.le_refl _)
      rw [hs] at h6
      cases a with
      | none =>
        exfalso
        simp only [Builtin.firstCells] at h6
        have h7 := congrArg (fun r => match r with | Result.ok (v : Array Value) _ => v.size | _ => 0) h6
        rw [bytesV_len] at h7
        have h8 : us.length = xs.length := by rw [hus]; simp
        simp [Sem.run_pure] at h7
        omega
      | some ad =>
        refine ⟨ad, rfl, ?_⟩;rw [bytesV_len] at h6;have h8 : us.length = xs.length := by rw [hus]; simp
        rw [Nat.mul_one, List.take_of_length_le (by omega), hus] at h6
        have e1 : Builtin.firstCells 1 xs.length (.slice (some ad) xs.length c) = loadCells ad (xs.length * 1) := rfl
        rw [e1, Nat.mul_one] at h6
        exact h6
  have hc : convert ty ty2 (ρ x) = (do match ← underlying ty, ← underlying ty2, ρ x with | _, _, _ => Conv.bytesToString (ρ x)) ∨ True := .inr trivial
  rw [hs] at hrun ⊢
  unfold convert
  simp only [Sem.run_bind, run_under hu, run_under hu2, Result.andThen_ok, run_under he]
  exact hrun
theorem sl_shape {v : V} {e : Nat} {xs : List (List V)} (h : IsSl v e xs) {m : Nat} (hm : xs.length = m) : ∀ X u, VRep X v u → ∃ a c, u = .slice a m c := by
  intro X u hv
  obtain ⟨a, c, h1, _⟩ := h.rep hv
  exact ⟨a, c, by rw [h1, hm]⟩
end
def AppRuns (P : Program) (tys : Array TypeId) (ty0 el : TypeId) (e : Nat) (u : Value) (n : Nat) (new : List Value) (w : World) : Prop :=
  (∀ (a : Option Addr) (len cap : Nat) (w' : World), len + n ≤ cap → (match a with | some a => (storeCells (a.add (len * e)) new).run P w = .ok () w' | none => w' = w) → (Builtin.append_ tys ty0 #[.slice a len cap, u]).run P w = .ok (.slice a (len + n) cap) w') ∧
  ∀ (a : Option Addr) (len cap : Nat) (old : List Value), cap < len + n → len + n ≤ 1073741824 → (∀ d, (Builtin.firstCells e len (.slice a len cap)).run P { w with drawn := d } = .ok old.toArray { w with drawn := d }) →
    ∃ d c rest, len + n ≤ c ∧ rest.length = (c - (len + n)) * e ∧ (Builtin.append_ tys ty0 #[.slice a len cap, u]).run P w = .ok (.slice (some ⟨w.heap.size, 0, none⟩) (len + n) c) (({ w with drawn := d } : World).alloc (.cells (old ++ new ++ rest).toArray el (0, 0)))
section
variable {P : Program} {o : Oper} {t : Nat → V} {pre up : List (Nat × Box)} {val : V} {l : List (Nat × V)}
theorem append_reallocA {el : TypeId} {tys : Array TypeId} {e n k : Nat} {X : Ctx} {a : Option Addr} {cap : Nat} {u : Value} {xs ys : List (List V)} (hR : R n X) (hk : X.bx k = .dead ∨ ∃ m0, X.bx k = .tail m0 ∧ m0 < xs.length + ys.length) (hkn : k < n)
    (hxs : xs = [] ∨ ∃ b q, a = some ⟨b, q, none⟩ ∧ RowsAt X e xs b q) (hyl : ∀ r ∈ ys, r.length = e) (hlt : cap < xs.length + ys.length) (hb : xs.length + ys.length ≤ 1073741824) (ty0 : TypeId)
    {new : List Value} (hnr : RowRep X ys.flatten new) (hnl : new.length = ys.length * e) (hn1 : ∀ x ∈ new, oneV x = true) (hA : AppRuns P tys ty0 el e u ys.length new X.w) :
    ∃ X' u', (Builtin.append_ tys ty0 #[.slice a xs.length cap, u]).run P X.w = .ok u' X'.w ∧ X'.bx = upd X.bx k (.tail (xs.length + ys.length)) ∧ R n X' ∧ Ext X X' ∧ VRep X' (.own e (xs ++ ys) k) u' := by
  have hold : ∃ old, RowRep X xs.flatten old ∧ old.length = xs.length * e ∧ (∀ x ∈ old, oneV x = true) ∧ (∀ r ∈ xs, r.length = e) ∧ ∀ d, (Builtin.firstCells e xs.length (.slice a xs.length cap)).run P { X.w with drawn := d } = .ok old.toArray { X.w with drawn := d } := by
    rcases hxs with rfl | ⟨b, q, rfl, h3⟩
    · refine ⟨[], by simp [RowRep], by simp, by simp, by simp, fun d => ?_⟩
      cases a with
      | none => rfl
      | some a => simp [Builtin.firstCells, loadCells, loadCellsFrom]
    · obtain ⟨us, g1, g2, g3, g4⟩ := h3.flat
      refine ⟨us, g1, g2, g4, h3.lens, fun d => ?_⟩;have := run_loadCells_list (P := P) { X.w with drawn := d } ⟨b, q, none⟩ us (fun j v hj => by rw [addr_add]; exact g3 j v hj);rw [g2] at this;exact this
  obtain ⟨old, o1, o2, o3, o4, o5⟩ := hold
  obtain ⟨d, c, rest, hc, hrl, hrun⟩ := hA.2 a xs.length cap old hlt hb o5
  obtain ⟨X', x1, x2, x3, x4, x5⟩ := new_grow (k := k) (m := xs.length + ys.length) (st := (xs.length + ys.length) * e) (cells := (old ++ new ++ rest).toArray) (ty := el) hR hk hkn d
  have hh : X'.w.heap[X.w.heap.size]? = some (.cells ((old ++ new) ++ rest).toArray el (0, 0)) := by
    rw [x2]
    show (X.w.heap.push _)[X.w.heap.size]? = _
    simp
  have hrr : RowRep X' (xs ++ ys).flatten (old ++ new) := by
    rw [List.flatten_append]
    exact RowRep.mono x5 _ _ (o1.append hnr)
  have h11 : ∀ x ∈ old ++ new, oneV x = true := fun x hx => (List.mem_append.1 hx).elim (o3 x) (hn1 x)
  have hll : ∀ r ∈ xs ++ ys, r.length = e := fun r hr => (List.mem_append.1 hr).elim (o4 r) (hyl r)
  have hrows := stb_new (X := X) x3 hh (by rw [List.length_append, o2, hnl, Nat.add_mul]) hrr hll h11
  refine ⟨X', _, by rw [hrun, ← x2], x1, x4, x5, ?_⟩;simp only [VRep];refine ⟨some ⟨X.w.heap.size, 0, none⟩, c, by rw [List.length_append], by rw [List.length_append]; exact hc, .inr ⟨_, _, rfl, hrows⟩, xs.length + ys.length, by rw [x1, upd_eq], Nat.le_of_eq List.length_append, fun _ => .inr ?_⟩;refine ⟨X.w.heap.size, 0, _, _, el, rfl, x3, t_119, hh, ?_⟩;simp only [List.size_toArray, List.length_append, o2, hnl, hrl];rw [← Nat.add_mul, ← Nat.add_mul];rw [show xs.length + ys.length + (c - (xs.length + ys.length)) = c by omega]
  omega
theorem step_append_ownA {el : TypeId} {tys : Array TypeId} {e k : Nat} {x y : Operand} {vy : V} {xs ys : List (List V)} (ho : o.op = .call { callee := .builtin .append, args := #[x, y], argTypes := tys })
    (hx : ev t x = .own e xs k) (hy : ev t y = vy) (hvy : ∀ n X u, R n X → VRep X vy u → (∀ p ∈ pre, X.bx p.1 = p.2) → (∀ r ∈ ys, r.length = e) ∧ ∃ new, RowRep X ys.flatten new ∧ new.length = ys.length * e ∧ (∀ x ∈ new, oneV x = true) ∧ AppRuns P tys o.type el e u ys.length new X.w) (hb : xs.length + ys.length ≤ 1073741824) :
    StepOK P o t ((k, .tail xs.length) :: pre) [(k, .tail (xs ++ ys).length)] (.own e (xs ++ ys) k) := by
  rw [List.length_append]
  intro n X a next Q hR hop hpre hup hk
  have g1 := hop x t_82
  have g2 := hop y t_82
  rw [hx] at g1; rw [hy] at g2
  have hkd : X.bx k = .tail xs.length := hpre (k, .tail xs.length) (by simp)
  have hkn : k < n := hup (k, .tail (xs.length + ys.length)) (by simp)
  obtain ⟨l2, new, l3, l4, l5, lA⟩ := hvy n X _ hR g2 (fun p hp => hpre p (List.mem_cons_of_mem _ hp))
  have g1' := g1
  simp only [VRep] at g1
  obtain ⟨ad, cap, s1, s2, s3, n0, s4, s5, s6⟩ := g1
  rw [hkd] at s4
  cases s4
  have hex : execOp a.eval o = (do pure (.value (← Builtin.append_ tys o.type #[a.eval x, a.eval y]))) := by
    rw [exec_builtin ho]
    have e1 : (#[x, y].map a.eval : Array Value) = #[a.eval x, a.eval y] := by simp
    rw [e1]; rfl
  have key : ∃ X' u', (Builtin.append_ tys o.type #[a.eval x, a.eval y]).run P X.w = .ok u' X'.w ∧ X'.bx = upd X.bx k (.tail (xs.length + ys.length)) ∧ R n X' ∧ Ext X X' ∧ VRep X' (.own e (xs ++ ys) k) u' := by
    by_cases hys : ys.length = 0
    · have hy0 : ys = [] := List.length_eq_zero_iff.1 hys
      subst hy0
      have hnew : new = [] := t_113
      subst hnew
      rw [s1] at g1' ⊢
      refine ⟨X, _, lA.1 _ _ _ X.w (by simpa using s2) ?_, ?_, hR, Ext.refl X, by simpa using g1'⟩
      · cases ad with
        | none => rfl
        | some ad => simp [storeCells]
      · funext j
        by_cases e1 : j = k
        · subst e1; rw [upd_eq, hkd]; rfl
        · rw [upd_ne _ _ _ _ e1]
    · rw [s1]
      by_cases hroom : xs.length + ys.length ≤ cap
      · rcases s6 rfl with h7 | ⟨b, q, st, arr, ty', h7, h8, h9, h10, h11⟩
        · omega
        · subst h7
          have he0 : ys.length * e = new.length := l4.symm
          have hcape : (xs.length + ys.length) * e ≤ cap * e := Nat.mul_le_mul hroom (Nat.le_refl _)
          rw [Nat.add_mul] at hcape
          obtain ⟨w', r1, r2, r3, r4, r5, r6, r7⟩ := run_storeCells (P := P) (b := b) new st 0 X.w arr.toList ty' (by simpa using h10) (by simp; omega) l5
          have hsame : ∀ j, j < st → (arr.toList.take (st + 0) ++ new ++ arr.toList.drop (st + 0 + new.length))[j]? = arr.toList[j]? := by
            intro j hj
            have hlt : j < arr.toList.length := by simp; omega
            rw [List.append_assoc, List.getElem?_append_left (by simp; omega), List.getElem?_take, if_pos (by omega)]
          obtain ⟨t1, t2⟩ := grow_in (m := xs.length + ys.length) (st' := st + new.length) hR hkd (by omega) h8 (by omega) (us := arr.toList) (by simpa using h10) r2 r3 r4 r5 r6 r7 hsame
          have hb1 : a.eval y = a.eval y := rfl
          refine ⟨_, _, lA.1 _ _ _ w' hroom ?_, rfl, t1, t2, ?_⟩
          · show (storeCells ((⟨b, q, none⟩ : Addr).add (xs.length * e)) new).run P X.w = _
            rw [addr_add, h9]; exact r1
          · have hrows : RowsAt { X with O := upd X.O b (.grow k (st + new.length)), bx := upd X.bx k (.tail (xs.length + ys.length)), w := w' } e (xs ++ ys) b q := by
              have hnew : RowsAt { X with O := upd X.O b (.grow k (st + new.length)), bx := upd X.bx k (.tail (xs.length + ys.length)), w := w' } e ys b st := by
                refine rowsAt_of (RowRep.mono t2 _ _ l3) l2 (fun j v hj => ?_) (fun j hj => ?_) l5
                · show w'.cell? _ = _
                  have hjl : j < new.length := (List.getElem?_eq_some_iff.1 hj).1
                  have hsl : st ≤ arr.toList.length := by simp; omega
                  rw [cell_some r7, List.append_assoc, List.getElem?_append_right t_97, List.getElem?_append_left t_97]
                  have : st + j - (List.take (st + 0) arr.toList).length = j := t_97
                  rw [this]; exact hj
                · show Stb (upd X.O b _ b) _
                  rw [upd_eq]; show st + j < st + new.length; omega
              rcases s3 with rfl | ⟨b', q', h12, h13⟩
              · simp at h9; subst h9; simpa using hnew
              · cases h12
                refine RowsAt.append (RowsAt.mono t2 e xs b q h13) ?_;rw [h9]; exact hnew
            simp only [VRep]
            refine ⟨some ⟨b, q, none⟩, cap, by rw [List.length_append], by rw [List.length_append]; exact hroom, .inr ⟨b, q, rfl, hrows⟩, xs.length + ys.length, upd_eq _ _ _, Nat.le_of_eq List.length_append, fun _ => .inr ?_⟩;refine ⟨b, q, st + new.length, _, ty', rfl, upd_eq _ _ _, ?_, r7, ?_⟩
            · rw [List.length_append, Nat.add_mul]; omega
            · simp; omega
      · exact append_reallocA hR (.inr ⟨_, hkd, by omega⟩) hkn s3 l2 (by omega) hb o.type l3 l4 l5 lA
  obtain ⟨X', u', k1, k2, k3, k4, k5⟩ := key
  unfold Oper.wp
  rw [exec_run hex k1]
  exact hk X' u' k2 k3 k4 k5
theorem app_zeros {ty el ty2 : TypeId} {tys : Array TypeId} {e n : Nat} {w : World} {z : Value} {k : IntKind} (h0 : tys[0]? = some ty) (h1 : tys[1]? = some ty2) (hu : P.underlying ty = some (.slice el)) (hu2 : P.underlying ty2 = some (.int .i64)) (he : ElemT P el e) (hz : (P.info? el).bind (·.zero) = some z) (hzs : z.cells.size = e) (hn : n ≤ 1073741824) (ty0 : TypeId) :
    AppRuns P tys ty0 el e (.int k n) n (if n * e = 0 then [] else (Builtin.zeroCells z.cells n).toList) w := by
  obtain ⟨hs, _, i, hi, hib⟩ := he
  have hti : ∀ w, (typeInfo el).run P w = .ok i w := fun w => by simp [typeInfo, hi]
  have hw : IntKind.i64.wrap (n : Int) = n := w64 (by omega)
  have hroom : ∀ m w, (askRoom m).run P w = .ok () w := by intro m w; unfold askRoom; split <;> rfl
  have hlb : ¬ ((n : Int) * (i.bytes : Int) > 2 ^ 48) := by
    have h1 : n * i.bytes ≤ 1073741824 * 4096 := Nat.mul_le_mul hn hib
    have h2 : ((n * i.bytes : Nat) : Int) ≤ ((1073741824 * 4096 : Nat) : Int) := Int.ofNat_le.2 h1
    rw [Int.natCast_mul] at h2
    omega
  have hneg : ¬ ((n : Int) < 0) := by omega
  have hai : ∀ w, (asInt (.int k n)).run P w = .ok (n : Int) w := fun w => rfl
  have happ : ∀ w, (if n * e = 0 then (pure #[] : Sem (Array Value)) else do pure (Builtin.zeroCells (← zeroValue el).cells n)).run P w = .ok (if n * e = 0 then [] else (Builtin.zeroCells z.cells n).toList).toArray w := by
    intro w
    split
    · rfl
    · simp only [Sem.run_bind, run_zero hz, Result.andThen_ok, Sem.run_pure]
  refine ⟨fun a len cap w' hle hst => ?_, fun a len cap old hlt hb ho => ?_⟩
  · unfold Builtin.append_
    simp only [h0, h1, List.getElem?_toArray, List.getElem?_cons_zero, List.getElem?_cons_succ, Sem.run_bind, run_under hu, run_under hu2, Result.andThen_ok, run_size hs, Sem.run_pure, if_true, Bool.not_true, Bool.false_eq_true, if_false, hai, hw, hneg, hti, hlb, Int.toNat_natCast, hle, happ]
    cases a with
    | none => simp only at hst; subst hst; rfl
    | some a => simp only at hst; simp only [hst, Sem.run_bind, Result.andThen_ok, Sem.run_pure]
  · have hbnd : Builtin.nextslicecap (len + n) cap * i.bytes ≤ 2 ^ 48 := by
      have h2 := nextslicecap_le (len + n) cap hlt
      calc Builtin.nextslicecap (len + n) cap * i.bytes ≤ (2 * (len + n) + 512) * 4096 := Nat.mul_le_mul h2 hib
        _ ≤ 2 ^ 48 := by omega
    let q : Question := .appendCap (len + n) cap el
    let c := q.cut (w.tape w.drawn q)
    have hc : len + n ≤ c := by show len + n ≤ (len + n) + _ % _; omega
    refine ⟨w.drawn + 1, c, (Builtin.zeroCells z.cells (c - (len + n))).toList, hc, by simp [zeroCells_size, hzs], ?_⟩;have hchoose : (choose q).run P w = .ok c { w with drawn := w.drawn + 1 } := by simp [choose, Sem.run, q, Question.forced, c]
    have hnle : ¬ len + n ≤ cap := by omega
    have hi0 : ¬ (((len + n : Nat) : Int) > IntKind.i64.max) := by rw [IntKind.max_i64]; omega
    unfold Builtin.append_
    simp only [h0, h1, List.getElem?_toArray, List.getElem?_cons_zero, List.getElem?_cons_succ, Sem.run_bind, run_under hu, run_under hu2, Result.andThen_ok, run_size hs, Sem.run_pure, if_true, Bool.not_true, Bool.false_eq_true, if_false, hai, hw, hneg, hti, hlb, Int.toNat_natCast, hnle, hi0, false_and]
    rw [if_neg (by omega)]
    simp only [Sem.run_bind, hti, Result.andThen_ok]
    rw [show (Question.appendCap (len + n) cap el) = q from rfl, hchoose]
    simp only [Result.andThen_ok, hroom, ho, happ, run_zero hz, newRow, newObj, Sem.run_bind]
    have e1 : ∀ nw : List Value, (old ++ nw ++ (Builtin.zeroCells z.cells (c - (len + n))).toList).toArray = old.toArray ++ nw.toArray ++ Builtin.zeroCells z.cells (c - (len + n)) := by simp
    rw [e1]
    rfl
theorem step_append_z {ty el ty2 : TypeId} {tys : Array TypeId} {e k m : Nat} {x y : Operand} {kd : IntKind} {z : Value} {zs : List Value} {xs : List (List V)} (ho : o.op = .call { callee := .builtin .append, args := #[x, y], argTypes := tys })
    (h0 : tys[0]? = some ty) (h1 : tys[1]? = some ty2) (hu : P.underlying ty = some (.slice el)) (hu2 : P.underlying ty2 = some (.int .i64)) (he : ElemT P el e) (hz : (P.info? el).bind (·.zero) = some z) (hzs : z.cells.toList = zs) (hzl : zs.length = e) (h1v : zs.all oneV = true)
    (hx : ev t x = .own e xs k) (hy : ev t y = .sc (.int kd m)) (hb : xs.length + m ≤ 1073741824) :
    StepOK P o t [(k, .tail xs.length)] [(k, .tail (xs ++ List.replicate m (zs.map V.sc)).length)] (.own e (xs ++ List.replicate m (zs.map V.sc)) k) := by
  refine step_append_ownA (el := el) ho hx hy (fun n X u hR hv _ => ?_) (by simpa using hb);simp only [VRep] at hv;subst hv;refine ⟨fun r hr => by rw [List.eq_of_mem_replicate hr]; simpa using hzl, _, ?_, ?_, ?_, by
    have := app_zeros (n := m) (w := X.w) (k := kd) h0 h1 hu hu2 he hz t_117 (by omega) o.type
    rw [List.length_replicate]; exact this⟩
  · have hzr := zero_rows z e t_117 m
    rw [hzs] at hzr
    have hrow : ∀ m, RowRep X (List.replicate m (zs.map V.sc)).flatten (List.replicate m zs).flatten := by
      intro m
      induction m with
      | zero => simp [RowRep]
      | succ m ih => simp only [List.replicate_succ, List.flatten_cons]; exact (rowRep_sc X zs).append ih
    have hzc : (Builtin.zeroCells z.cells m).toList = (List.replicate m zs).flatten := by
      rw [← hzr]
      have : z.cells.size = e := t_117
      unfold Builtin.zeroCells; rw [this]
    split
    · rename_i h
      rcases Nat.mul_eq_zero.1 h with h | h
      · subst h; simp [RowRep]
      · have : zs = [] := List.length_eq_zero_iff.1 (by omega)
        subst this
        have h2 := hrow m
        simpa using h2
    · rw [hzc]; exact hrow m
  · rw [List.length_replicate]
    split
    · rename_i h; rw [h]; rfl
    · have : z.cells.size = e := by rw [← Array.length_toList, hzs]; exact hzl
      simp [zeroCells_size, this]
  · intro x hx
    by_cases h : m * e = 0
    · rw [if_pos h] at hx; cases hx
    · rw [if_neg h] at hx
      simp only [Builtin.zeroCells, Array.toList_map, List.mem_map] at hx
      obtain ⟨j, _, rfl⟩ := hx
      have hpos : 0 < z.cells.size := by
        rw [← Array.length_toList, hzs, hzl]
        exact Nat.pos_of_ne_zero (fun h0 => h (by rw [h0, Nat.mul_zero]))
      have hm : z.cells[j % z.cells.size]! ∈ zs := by
        rw [← hzs, getElem!_pos z.cells _ (Nat.mod_lt _ hpos)]
        exact Array.getElem_mem_toList _
      exact List.all_eq_true.1 h1v _ hm
section
variable {B : Bas} {N n : Nat} {Q : Exit → S → Prop} {ops : Array Oper} {L : List Oper} {bx : Nat → Box} {acc : List Ac} {ty ty2 : TypeId} {x y : Operand} {d : Nat} {a b : ByteArray}
end
end
end Go.Vm
set_option linter.unusedVariables false
set_option linter.unusedSimpArgs false
namespace Go.Vm
def I64 (x : Int) : Prop := -9223372036854775808 ≤ x ∧ x ≤ 9223372036854775807
def U64 (v : Int) : Prop := 0 ≤ v ∧ v < 18446744073709551616
def U32 (v : Int) : Prop := 0 ≤ v ∧ v < 4294967296
theorem tl_eq {b : Box} {m n : Nat} (h : b = .tail m) (e : m = n) : b = .tail n := by rw [h, e]
theorem Does.res {P : Program} {f : FuncId} {vs : List V} {pre up : List (Nat × Box)} {r r' : V} (h : Does P f vs pre up r) (hl : VLe r r') : Does P f vs pre up r' := fun n X args h1 h2 h3 h4 => (h n X args h1 h2 h3 h4).mono fun e w' ⟨X', u, g1, g2, g3, g4, g5, g6⟩ => ⟨X', u, g1, hl _ _ g2, g3, g4, g5, g6⟩
theorem uE {α : Type} {f : Nat → α} {k : Nat} {v : α} : upd f k v k = v := upd_eq f k v
theorem uN {α : Type} {f : Nat → α} {k i : Nat} {v b : α} (h : i ≠ k) (h2 : f i = b) : upd f k v i = b := (upd_ne f k v i h).trans h2
theorem bytes_nil : Byts [] := fun x h => by cases h
theorem bytes_app {a b : List Int} (ha : Byts a) (hb : Byts b) : Byts (a ++ b) := fun x h => (List.mem_append.1 h).elim (ha x) (hb x)
theorem bytes_take {r : List Int} (h : Byts r) (n : Nat) : Byts (r.take n) := fun x hx => h x (List.mem_of_mem_take hx)
theorem bytes_drop {r : List Int} (h : Byts r) (n : Nat) : Byts (r.drop n) := fun x hx => h x (List.mem_of_mem_drop hx)
theorem bytes_rep (n : Nat) {x : Int} (h : 0 ≤ x ∧ x < 256) : Byts (List.replicate n x) := fun y hy => by rw [List.eq_of_mem_replicate hy]; exact h
theorem bytes_one {x : Int} (h : 0 ≤ x ∧ x < 256) : Byts [x] := fun y hy => by rw [List.mem_singleton.1 hy]; exact h
theorem at_any {b : List Int} (hb : Byts b) (i : Int) : 0 ≤ at' b i ∧ at' b i < 256 := by
  unfold at'
  by_cases h : i.toNat < b.length
  · rw [List.getD, List.getElem?_eq_getElem h]; exact hb _ (List.getElem_mem _)
  · rw [List.getD, List.getElem?_eq_none (by omega)]; exact ⟨Int.le_refl _, by decide⟩
def beN (b : List Int) : Int := b.foldl (fun n c => n * 256 + c) 0
theorem beN_snoc (b : List Int) (c : Int) : beN (b ++ [c]) = beN b * 256 + c := by simp [beN]
theorem beN_take {b : List Int} {j : Nat} (h : j < b.length) : beN (b.take (j + 1)) = beN (b.take j) * 256 + at' b (j : Int) := by
  rw [at_nat _ _ h, List.take_add_one, List.getElem?_eq_getElem h]; exact beN_snoc _ _
theorem beN_lt : ∀ (j : Nat) (b : List Int), Byts b → j ≤ b.length → 0 ≤ beN (b.take j) ∧ beN (b.take j) < 256 ^ j
  | 0, b, _, _ => by simp [beN]
  | j + 1, b, hb, h => by
    obtain ⟨h1, h2⟩ := beN_lt j b hb (by omega)
    have h3 := hb _ (List.getElem_mem (show j < b.length by omega))
    rw [beN_take (by omega), at_nat _ _ (show j < b.length by omega)]
    have h4 : (256 : Int) ^ (j + 1) = 256 ^ j * 256 := rfl
    omega
theorem beN_8 {b : List Int} {j : Nat} (hb : Byts b) (hl : j ≤ b.length) (h : j < 8) : 0 ≤ beN (b.take j) ∧ beN (b.take j) < 72057594037927936 := by
  obtain ⟨h1, h2⟩ := beN_lt j b hb hl
  refine ⟨h1, Int.lt_of_lt_of_le h2 ?_⟩;have h3 : 256 ^ j ≤ 256 ^ 7 := Nat.pow_le_pow_right (by decide) (by omega);have h5 : ((256 ^ j : Nat) : Int) ≤ ((256 ^ 7 : Nat) : Int) := Int.ofNat_le.2 h3;have h6 : ((256 ^ 7 : Nat) : Int) = 72057594037927936 := by decide
  rw [h6] at h5
  rwa [Int.natCast_pow] at h5
def beB : Nat → Int → List Int
  | 0, _ => []
  | k + 1, v => beB k (v / 256) ++ [v % 256]
theorem beB_len : ∀ (k : Nat) (v : Int), (beB k v).length = k
  | 0, _ => rfl
  | k + 1, v => by simp [beB, beB_len k]
theorem beB_bytes : ∀ (k : Nat) (v : Int), Byts (beB k v)
  | 0, _ => fun x h => by cases h
  | k + 1, v => fun x h => by
    rcases List.mem_append.1 h with h | h
    · exact beB_bytes k _ x h
    · rw [List.mem_singleton] at h; subst h; omega
theorem beB_snoc (k : Nat) (v : Int) : bytesV (beB k (v / 256)) ++ [[.sc (.int .u8 (v % 256))]] = bytesV (beB (k + 1) v) := by
  simp [beB, bytesV, bV]
theorem wrap_u8 (x : Int) : IntKind.u8.wrap x = x % 256 := by unfold IntKind.wrap; simp [IntKind.signed, IntKind.bits]
theorem beB_cons : ∀ (k : Nat) (v : Int), beB (k + 1) v = (v / 256 ^ k % 256) :: beB k v
  | 0, v => by simp [beB]
  | k + 1, v => by
    rw [beB, beB_cons k (v / 256), beB]
    have : v / 256 / 256 ^ k = v / 256 ^ (k + 1) := by
      rw [Int.ediv_ediv, if_neg (by omega), Int.sub_zero, Int.pow_succ, Int.mul_comm]
    rw [this]; rfl
theorem beB_drop (k j : Nat) (v : Int) (h : j ≤ k) : (beB k v).drop (k - j) = beB j v := by
  induction k with
  | zero => have : j = 0 := by omega
            subst this; rfl
  | succ k ih =>
    by_cases hj : j = k + 1
    · subst hj; simp
    · rw [beB_cons, show k + 1 - j = (k - j) + 1 by omega, List.drop_succ_cons]
      exact ih (by omega)
theorem beB_step {k j : Nat} (v : Int) (h : j < k) : (beB k v).take (j + 1) = (beB k v).take j ++ [v / 256 ^ (k - 1 - j) % 256] := by
  have hl := beB_len k v
  rw [List.take_add_one]
  congr 1
  have h1 : (beB k v).drop j = beB (k - j) v := by have := beB_drop k (k - j) v (by omega); rwa [show k - (k - j) = j by omega] at this
  have h2 : (beB k v)[j]? = ((beB k v).drop j)[0]? := by rw [List.getElem?_drop]; rfl
  rw [h2, h1, show k - j = (k - 1 - j) + 1 by omega, beB_cons]
  rfl
theorem beB_high {v : Int} (hv : U64 v) (k : Nat) (h : 8 ≤ k) : v / 256 ^ k % 256 = 0 := by
  have h1 : (256 : Int) ^ 8 ≤ 256 ^ k := by
    have h3 : 256 ^ 8 ≤ 256 ^ k := Nat.pow_le_pow_right (by decide) h
    have := Int.ofNat_le.2 h3
    rwa [Int.natCast_pow, Int.natCast_pow] at this
  rw [Int.ediv_eq_zero_of_lt hv.1 (Int.lt_of_lt_of_le hv.2 h1)]; rfl
theorem shr_byte {v : Int} {i : Int} {m : Nat} (hi : i = 8 * (m : Int)) (hm : m ≤ 7) : v.fdiv (2 ^ (min i.toNat IntKind.u64.bits)) = v / 256 ^ m := by
  have e : min i.toNat IntKind.u64.bits = 8 * m := by show min i.toNat 64 = _; omega
  rw [e, Int.pow_mul, Int.fdiv_eq_ediv_of_nonneg _ (by
    have : (0 : Int) ≤ (2 ^ 8) ^ m := Int.pow_nonneg (by decide)
    exact this)]
  rfl
theorem beN_beB : ∀ (k : Nat) (v : Int), 0 ≤ v → v < 256 ^ k → beN (beB k v) = v
  | 0, v, h0, h1 => by
    have : v = 0 := by simp at h1; omega
    subst this; rfl
  | k + 1, v, h0, h1 => by
    have e : (256 : Int) ^ (k + 1) = 256 ^ k * 256 := rfl
    rw [beB, beN_snoc, beN_beB k (v / 256) (by omega) (by rw [e] at h1; omega)]
    omega
end Go.Vm
namespace Go.Vm
theorem vle_osl {e k : Nat} {a b : List (List V)} (h : a = b) : VLe (.own e a k) (.sl e b) := by rw [h]; exact VLe.own_sl _ _ _
theorem vle_own {e k : Nat} {a b : List (List V)} (h : a = b) : VLe (.own e a k) (.own e b k) := by rw [h]; exact VLe.refl _
theorem at_mem {α : Type} [Inhabited α] {xs : List α} {i : Int} (h0 : 0 ≤ i) (h : i < xs.length) : at' xs i ∈ xs := by
  obtain ⟨j, rfl⟩ : ∃ j : Nat, i = j := ⟨i.toNat, by omega⟩
  rw [at_nat _ _ (by omega)]; exact List.getElem_mem _
def fieldB (s : ByteArray) (m : Nat) : List Int := [(s.size : Int)] ++ sB s ++ List.replicate (m - 1 - s.size) 0
theorem fieldB_len {s : ByteArray} {m : Nat} (h : s.size < m) : (fieldB s m).length = m := by simp [fieldB, sB_len]; omega
theorem fieldB_byts {s : ByteArray} {m : Nat} (h : s.size < 256) : Byts (fieldB s m) := bytes_app (bytes_app (bytes_one ⟨by omega, by omega⟩) (sB_bytes s)) (bytes_rep _ (by omega))
end Go.Vm
namespace Go.Vm
theorem step_com {P : Program} {o : Oper} {t : Nat → V} {ty : TypeId} {x : Operand} {k : IntKind} {a r : Int} (ho : o.op = .unOp .xor ty x) (hx : ev t x = .sc (.int k a)) (h : bits .xor k (if k.signed then -1 else k.max) a = r) : StepOK P o t [] [] (.sc (.int k r)) :=
  step_unOp ho hx fun w => by subst h; simp only [Op.unary, intBits_xor]; rfl
end Go.Vm
