/- A logic of values over the model. Part M: slices that grow and are written: a box of their own whose block may change. -/
import Derived.Test.YtggeejghchnpaaaKrVmK
set_option linter.unusedVariables false
set_option linter.unusedSimpArgs false
namespace Go.Vm
/-- What a change of such a box leaves: its block stays, its rows change. -/
theorem g_write {n k v v' e b : Nat} {X : Ctx} {rows rows' : List (List V)} {us' rest' : List Value} {us : Array Value} {ty : TypeId} {w' : World} (h : R n X) (hk : X.bx k = .gcells v e rows) (hO : X.O (X.bl k) = .box k) (hv : v ≤ v')
    (hb : b = X.bl k) (hh : X.w.heap[b]? = some (.cells us ty (0, 0)))
    (hos : w'.os = X.w.os) (htape : w'.tape = X.w.tape) (hout : w'.output = X.w.output) (hsz : w'.heap.size = X.w.heap.size)
    (hne : ∀ b', b' ≠ b → w'.heap[b']? = X.w.heap[b']?) (hnew : w'.heap[b]? = some (.cells (us' ++ rest').toArray ty (0, 0))) (hus : (us' ++ rest').length = us.size)
    (hl : ∀ r ∈ rows', r.length = e) (hr : RowRep X rows'.flatten us') (hul : us'.length = rows'.length * e) (h1 : ∀ x ∈ us', oneV x = true) :
    R n { X with bx := upd X.bx k (.gcells v' e rows'), w := w' } ∧ Ext X { X with bx := upd X.bx k (.gcells v' e rows'), w := w' } := by
  subst hb
  have he : Ext X { X with bx := upd X.bx k (.gcells v' e rows'), w := w' } := by
    refine ⟨fun b o hs => ⟨hs, ?_⟩, fun j hj => ⟨?_, rfl⟩, fun j m hj => ⟨m, ?_, Nat.le_refl _, fun _ b st arr ty h1 h2 => ⟨h1, arr, ?_, rfl⟩⟩, fun b hb => ⟨hb, ?_⟩, fun j v0 e0 rows0 hj => ?_, hos, htape, hout, by show _ ≤ w'.heap.size; omega⟩
    · have : b ≠ X.bl k := by intro e; subst e; rw [hO] at hs; exact hs
      exact World.cell?_of_block (w := X.w) (a := ⟨b, o, none⟩) (hne b this)
    · have e : j ≠ k := by intro e; subst e; rw [hk] at hj; exact hj
      show (upd X.bx k _ j).is
      rw [upd_ne _ _ _ _ e]; exact hj
    · have e : j ≠ k := by intro e; subst e; rw [hk] at hj; cases hj
      exact (upd_ne _ _ _ _ e).trans hj
    · have : b ≠ X.bl k := by intro e; subst e; rw [hO] at h1; cases h1
      exact (hne b this).trans h2
    · have : b ≠ X.bl k := by intro e; subst e; rw [hO] at hb; cases hb
      exact hne b this
    · by_cases e1 : j = k
      · subst e1
        rw [hk] at hj; cases hj
        refine ⟨v', rows', upd_eq _ _ _, hv, fun _ => ⟨rfl, fun hOj => ⟨hOj, fun us0 ty0 hu => ?_⟩⟩⟩
        rw [hh] at hu; cases hu
        exact ⟨_, hnew, by simpa using hus⟩
      · refine ⟨v0, rows0, (upd_ne _ _ _ _ e1).trans hj, Nat.le_refl _, fun _ => ⟨rfl, fun hOj => ⟨hOj, fun us0 ty0 hu => ⟨us0, ?_, rfl⟩⟩⟩⟩
        have : X.bl j ≠ X.bl k := by intro e2; rw [e2, hO] at hOj; cases hOj; exact e1 rfl
        exact (hne _ this).trans hu
  refine ⟨⟨fun j hj => ?_, fun b hb => h.free b (by simpa [hsz] using hb), fun j cs1 hj => ?_, fun j v0 e0 rows0 hj => ?_, obj_same h he fun j o hj => by
    have hj' : upd X.bx k (.gcells v' e rows') j = .obj o := hj
    have e : j ≠ k := by intro e; subst e; rw [upd_eq] at hj'; cases hj'
    rw [upd_ne _ _ _ _ e] at hj'
    refine ⟨hj', rfl, fun hOj => ⟨hOj, hne _ ?_⟩⟩
    intro e2; rw [e2, hO] at hOj; cases hOj; exact e rfl⟩, he⟩
  · have e : j ≠ k := by intro e; subst e; rw [h.dead j hj] at hk; cases hk
    exact (upd_ne _ _ _ _ e).trans (h.dead j hj)
  · have hj' : upd X.bx k (.gcells v' e rows') j = .cells cs1 := hj
    have e : j ≠ k := by intro e; subst e; rw [upd_eq] at hj'; cases hj'
    rw [upd_ne _ _ _ _ e] at hj'
    obtain ⟨g1, us1, ty1, g2, g3, g4⟩ := h.box j cs1 hj'
    have : X.bl j ≠ X.bl k := by intro e2; rw [e2, hO] at g1; cases g1; exact e rfl
    exact ⟨g1, us1, ty1, (hne _ this).trans g2, RowRep.mono he _ _ g3, g4⟩
  · have hj' : upd X.bx k (.gcells v' e rows') j = .gcells v0 e0 rows0 := hj
    by_cases e1 : j = k
    · subst e1
      rw [upd_eq] at hj'; cases hj'
      exact ⟨hl, .inr ⟨hO, us', rest', ty, hnew, RowRep.mono he _ _ hr, hul, h1⟩⟩
    · rw [upd_ne _ _ _ _ e1] at hj'
      obtain ⟨g1, g2⟩ := h.gbox j v0 e0 rows0 hj'
      refine ⟨g1, g2.imp id fun ⟨j1, us, rest, ty, j2, j3, j4, j5⟩ => ?_⟩
      have : X.bl j ≠ X.bl k := by intro e2; rw [e2, hO] at j1; cases j1; exact e1 rfl
      exact ⟨j1, us, rest, ty, (hne _ this).trans j2, RowRep.mono he _ _ j3, j4, j5⟩
/-- A new block for such a box. -/
theorem g_new {n k v' e : Nat} {X : Ctx} {rows' : List (List V)} {us' rest' : List Value} {ty : TypeId} (h : R n X) (hk : X.bx k = .dead ∨ ∃ v rows, X.bx k = .gcells v e rows ∧ v < v') (hn : k < n) (d : Nat)
    (hl : ∀ r ∈ rows', r.length = e) (hr : RowRep X rows'.flatten us') (hul : us'.length = rows'.length * e) (h1 : ∀ x ∈ us', oneV x = true) :
    ∃ X', X'.bx = upd X.bx k (.gcells v' e rows') ∧ X'.w = ({ X.w with drawn := d } : World).alloc (.cells (us' ++ rest').toArray ty (0, 0)) ∧ X'.bl k = X.w.heap.size ∧ X'.O X.w.heap.size = .box k ∧ R n X' ∧ Ext X X' := by
  let X' : Ctx := { O := upd X.O X.w.heap.size (.box k), bl := upd X.bl k X.w.heap.size, bx := upd X.bx k (.gcells v' e rows'), w := ({ X.w with drawn := d } : World).alloc (.cells (us' ++ rest').toArray ty (0, 0)) }
  have hfree := h.free X.w.heap.size (Nat.le_refl _)
  have hne : ∀ b, b ≠ X.w.heap.size → X'.w.heap[b]? = X.w.heap[b]? := by
    intro b hb
    show (X.w.heap.push _)[b]? = _
    rw [Array.getElem?_push, if_neg hb]
  have hOne : ∀ b, b ≠ X.w.heap.size → X'.O b = X.O b := fun b hb => upd_ne _ _ _ _ hb
  have he : Ext X X' := by
    refine ⟨fun b o hs => ?_, fun j hj => ?_, fun j m hj => ⟨m, ?_, Nat.le_refl _, fun _ b st arr ty h1 h2 => ⟨?_, arr, ?_, rfl⟩⟩, fun b hb => ?_, fun j v0 e0 rows0 hj => ?_, rfl, rfl, rfl, by show _ ≤ (X.w.heap.push _).size; simp⟩
    · have : b ≠ X.w.heap.size := by intro e; subst e; rw [hfree] at hs; exact hs
      rw [hOne b this]
      exact ⟨hs, World.cell?_of_block (w := X.w) (a := ⟨b, o, none⟩) (hne b this)⟩
    · have e : j ≠ k := by intro e; subst e; rcases hk with hk | ⟨v, rows, hk, _⟩ <;> (rw [hk] at hj; exact hj)
      exact ⟨by show (upd X.bx k _ j).is; rw [upd_ne _ _ _ _ e]; exact hj, upd_ne _ _ _ _ e⟩
    · have e : j ≠ k := by intro e; subst e; rcases hk with hk | ⟨v, rows, hk, _⟩ <;> (rw [hk] at hj; cases hj)
      exact (upd_ne _ _ _ _ e).trans hj
    · have : b ≠ X.w.heap.size := by intro e; subst e; rw [hfree] at h1; cases h1
      rw [hOne b this]; exact h1
    · have : b ≠ X.w.heap.size := by intro e; subst e; rw [hfree] at h1; cases h1
      exact (hne b this).trans h2
    · have : b ≠ X.w.heap.size := by intro e; subst e; rw [hfree] at hb; cases hb
      rw [hOne b this]
      exact ⟨hb, hne b this⟩
    · by_cases e1 : j = k
      · subst e1
        rcases hk with hk | ⟨v, rows, hk, hv⟩
        · rw [hk] at hj; cases hj
        · rw [hk] at hj; cases hj
          exact ⟨v', rows', upd_eq _ _ _, Nat.le_of_lt hv, fun hvv => by omega⟩
      · refine ⟨v0, rows0, (upd_ne _ _ _ _ e1).trans hj, Nat.le_refl _, fun _ => ⟨upd_ne _ _ _ _ e1, fun hOj => ?_⟩⟩
        have : X.bl j ≠ X.w.heap.size := by intro e; rw [e, hfree] at hOj; cases hOj
        exact ⟨(hOne _ this).trans hOj, fun us0 ty0 hu => ⟨us0, (hne _ this).trans hu, rfl⟩⟩
  refine ⟨X', rfl, rfl, upd_eq _ _ _, upd_eq _ _ _, ⟨fun j hj => ?_, fun b hb => ?_, fun j cs1 hj => ?_, fun j v0 e0 rows0 hj => ?_, obj_same h he fun j o hj => by
    have hj' : upd X.bx k (.gcells v' e rows') j = .obj o := hj
    have e : j ≠ k := by intro e; subst e; rw [upd_eq] at hj'; cases hj'
    rw [upd_ne _ _ _ _ e] at hj'
    refine ⟨hj', upd_ne _ _ _ _ e, fun hOj => ?_⟩
    have : X.bl j ≠ X.w.heap.size := by intro e2; rw [e2, hfree] at hOj; cases hOj
    exact ⟨(hOne _ this).trans hOj, hne _ this⟩⟩, he⟩
  · have e : j ≠ k := by omega
    exact (upd_ne _ _ _ _ e).trans (h.dead j hj)
  · have hb' : (X.w.heap.push (Obj.cells (us' ++ rest').toArray ty (0, 0))).size ≤ b := hb
    rw [Array.size_push] at hb'
    rw [hOne b (by omega)]
    exact h.free b (by omega)
  · have hj' : upd X.bx k (.gcells v' e rows') j = .cells cs1 := hj
    have e : j ≠ k := by intro e; subst e; rw [upd_eq] at hj'; cases hj'
    rw [upd_ne _ _ _ _ e] at hj'
    obtain ⟨g1, us1, ty1, g2, g3, g4⟩ := h.box j cs1 hj'
    have hbl : X'.bl j = X.bl j := upd_ne _ _ _ _ e
    have : X.bl j ≠ X.w.heap.size := by intro e2; rw [e2, hfree] at g1; cases g1
    rw [hbl, hOne _ this]
    exact ⟨g1, us1, ty1, (hne _ this).trans g2, RowRep.mono he _ _ g3, g4⟩
  · have hj' : upd X.bx k (.gcells v' e rows') j = .gcells v0 e0 rows0 := hj
    by_cases e1 : j = k
    · subst e1
      rw [upd_eq] at hj'; cases hj'
      have hbl : X'.bl j = X.w.heap.size := upd_eq _ _ _
      rw [hbl]
      refine ⟨hl, .inr ⟨upd_eq _ _ _, us', rest', ty, ?_, RowRep.mono he _ _ hr, hul, h1⟩⟩
      show (X.w.heap.push _)[X.w.heap.size]? = _
      simp
    · rw [upd_ne _ _ _ _ e1] at hj'
      have hbl : X'.bl j = X.bl j := upd_ne _ _ _ _ e1
      obtain ⟨g1, g2⟩ := h.gbox j v0 e0 rows0 hj'
      refine ⟨g1, g2.imp id fun ⟨j1, us, rest, ty, j2, j3, j4, j5⟩ => ?_⟩
      have : X.bl j ≠ X.w.heap.size := by intro e2; rw [e2, hfree] at j1; cases j1
      rw [hbl, hOne _ this]
      exact ⟨j1, us, rest, ty, (hne _ this).trans j2, RowRep.mono he _ _ j3, j4, j5⟩
/-- Such a box with nothing told of it: it comes into being, or what it held is given up. -/
theorem g_bare {n k v' e : Nat} {X : Ctx} (h : R n X) (hk : X.bx k = .dead ∨ ∃ v rows, X.bx k = .gcells v e rows ∧ v ≤ v') (hn : k < n) :
    R n { X with bx := upd X.bx k (.gcells v' e []) } ∧ Ext X { X with bx := upd X.bx k (.gcells v' e []) } := by
  have he : Ext X { X with bx := upd X.bx k (.gcells v' e []) } := by
    refine ⟨fun b o hs => ⟨hs, rfl⟩, fun j hj => ⟨?_, rfl⟩, fun j m hj => ⟨m, ?_, Nat.le_refl _, fun _ b st arr ty h1 h2 => ⟨h1, arr, h2, rfl⟩⟩, fun b hb => ⟨hb, rfl⟩, fun j v0 e0 rows0 hj => ?_, rfl, rfl, rfl, Nat.le_refl _⟩
    · have e : j ≠ k := by intro e; subst e; rcases hk with hk | ⟨v, rows, hk, _⟩ <;> (rw [hk] at hj; exact hj)
      show (upd X.bx k _ j).is
      rw [upd_ne _ _ _ _ e]; exact hj
    · have e : j ≠ k := by intro e; subst e; rcases hk with hk | ⟨v, rows, hk, _⟩ <;> (rw [hk] at hj; cases hj)
      exact (upd_ne _ _ _ _ e).trans hj
    · by_cases e1 : j = k
      · subst e1
        rcases hk with hk | ⟨v, rows, hk, hv⟩
        · rw [hk] at hj; cases hj
        · rw [hk] at hj; cases hj
          exact ⟨v', [], upd_eq _ _ _, hv, fun _ => ⟨rfl, fun hOj => ⟨hOj, fun us ty hu => ⟨us, hu, rfl⟩⟩⟩⟩
      · exact ⟨v0, rows0, (upd_ne _ _ _ _ e1).trans hj, Nat.le_refl _, fun _ => ⟨rfl, fun hOj => ⟨hOj, fun us ty hu => ⟨us, hu, rfl⟩⟩⟩⟩
  refine ⟨⟨fun j hj => ?_, h.free, fun j cs1 hj => ?_, fun j v0 e0 rows0 hj => ?_, obj_same h he fun j o hj => by
    have hj' : upd X.bx k (.gcells v' e []) j = .obj o := hj
    have e : j ≠ k := by intro e; subst e; rw [upd_eq] at hj'; cases hj'
    rw [upd_ne _ _ _ _ e] at hj'
    exact ⟨hj', rfl, fun hOj => ⟨hOj, rfl⟩⟩⟩, he⟩
  · exact (upd_ne _ _ _ _ (by omega)).trans (h.dead j hj)
  · have hj' : upd X.bx k (.gcells v' e []) j = .cells cs1 := hj
    have e : j ≠ k := by intro e; subst e; rw [upd_eq] at hj'; cases hj'
    rw [upd_ne _ _ _ _ e] at hj'
    obtain ⟨g1, us1, ty1, g2, g3, g4⟩ := h.box j cs1 hj'
    exact ⟨g1, us1, ty1, g2, RowRep.mono he _ _ g3, g4⟩
  · have hj' : upd X.bx k (.gcells v' e []) j = .gcells v0 e0 rows0 := hj
    by_cases e1 : j = k
    · subst e1
      rw [upd_eq] at hj'; cases hj'
      exact ⟨by simp, .inl rfl⟩
    · rw [upd_ne _ _ _ _ e1] at hj'
      obtain ⟨g1, g2⟩ := h.gbox j v0 e0 rows0 hj'
      exact ⟨g1, g2.imp id fun ⟨j1, us, rest, ty, j2, j3, j4, j5⟩ => ⟨j1, us, rest, ty, j2, RowRep.mono he _ _ j3, j4, j5⟩⟩
section
variable {P : Program} {o : Oper} {t : Nat → V} {pre up : List (Nat × Box)} {val : V}
/-! ### What is read off such a slice -/
theorem gsl_at {n k ver q len e : Nat} {X : Ctx} {u : Value} {rows : List (List V)} (hR : R n X) (hv : VRep X (.gsl k ver q len e) u) (hk : X.bx k = .gcells ver e rows) (hl : q + len ≤ rows.length) (h0 : 0 < len) :
    ∃ c us rest ty, u = .slice (some ⟨X.bl k, q * e, none⟩) len c ∧ len ≤ c ∧ X.O (X.bl k) = .box k ∧ X.w.heap[X.bl k]? = some (.cells (us ++ rest).toArray ty (0, 0)) ∧ RowRep X rows.flatten us ∧ us.length = rows.length * e ∧ (∀ x ∈ us, oneV x = true) ∧ (∀ r ∈ rows, r.length = e) ∧ (q + c) * e ≤ (us ++ rest).length := by
  simp only [VRep] at hv
  obtain ⟨a, c, v', e0, rows', h1, h2, h3, h4, h5⟩ := hv
  rw [hk] at h3; cases h3
  rcases h5 rfl with rfl | ⟨rfl, g1, us0, ty0, g2, g3⟩
  · omega
  obtain ⟨r1, r2⟩ := hR.gbox k ver e rows hk
  rcases r2 with rfl | ⟨j1, us, rest, ty, j2, j3, j4, j5⟩
  · simp at hl; omega
  · rw [g2] at j2
    cases j2
    exact ⟨c, us, rest, _, h1, h2, g1, g2, j3, j4, j5, r1, by simpa using g3⟩
theorem rows_cut {us : List Value} {X : Ctx} {e : Nat} : ∀ {rows : List (List V)} (q m : Nat), RowRep X rows.flatten us → (∀ r ∈ rows, r.length = e) → RowRep X (((rows.drop q).take m).flatten) ((us.drop (q * e)).take (m * e)) := by
  intro rows q m h hl
  have e1 : ((rows.drop q).take m).flatten = (rows.flatten.drop (q * e)).take (m * e) := by
    rw [flat_take (rows.drop q) m (fun r hr => hl r (List.mem_of_mem_drop hr))]
    congr 1
    have : ∀ (rows : List (List V)) (q : Nat), (∀ r ∈ rows, r.length = e) → (rows.drop q).flatten = rows.flatten.drop (q * e) := by
      intro rows
      induction rows with
      | nil => intro q _; simp
      | cons r rows ih =>
        intro q hl
        cases q with
        | zero => simp
        | succ q =>
          have hr := hl r (List.mem_cons_self ..)
          rw [List.drop_succ_cons, List.flatten_cons, List.drop_append, List.drop_of_length_le (l := r) (by rw [hr, Nat.add_mul]; omega), List.nil_append, hr, show (q + 1) * e - e = q * e by rw [Nat.add_mul]; omega]
          exact ih q (fun r' hr' => hl r' (List.mem_cons_of_mem _ hr'))
    exact this rows q hl
  rw [e1]
  exact (h.drop _).take _
theorem step_index_g {ty el : TypeId} {x y : Operand} {e k ver q len : Nat} {kd : IntKind} {i : Int} {rows : List (List V)} (ho : o.op = .indexAddr ty x y) (hx : ev t x = .gsl k ver q len e) (hy : ev t y = .sc (.int kd i))
    (hu : P.underlying ty = some (.slice el)) (he : (P.info? el).map (·.size) = some e) (h0 : 0 ≤ i) (h1 : i < len) (hl : q + len ≤ rows.length) : StepOK P o t [(k, .gcells ver e rows)] [] (.gref k ver ((q + i.toNat) * e)) := by
  refine step_value fun n X ρ hR hop hpre => ?_
  have g1 := hop x (by simp [ho, Op.operands])
  have g2 := hop y (by simp [ho, Op.operands])
  rw [hx] at g1; rw [hy] at g2
  simp only [VRep] at g2
  have hk : X.bx k = .gcells ver e rows := hpre (k, .gcells ver e rows) (by simp)
  obtain ⟨c, us, rest, ty', h2, _⟩ := gsl_at hR g1 hk hl (by omega)
  refine ⟨_, exec_run (exec_indexAddr ho) (by rw [h2, g2]; exact run_indexAt_sl hu he h0 h1 X.w), ?_⟩
  simp only [VRep]
  exact ⟨_, ver, e, rows, rfl, hk, Nat.le_refl _, fun _ => by rw [Nat.add_mul]⟩
theorem step_len_g {ty el : TypeId} {tys : Array TypeId} {x : Operand} {k ver q m e : Nat} (ho : o.op = .call { callee := .builtin .len, args := #[x], argTypes := tys }) (hty : tys[0]? = some ty) (hx : ev t x = .gsl k ver q m e) (hu : P.underlying ty = some (.slice el)) : StepOK P o t [] [] (.sc (.int .i64 m)) := by
  refine step_value fun n X ρ hR hop hpre => ?_
  have h1 := hop x (by simp [ho, Op.operands, Call.operands])
  rw [hx] at h1
  refine ⟨.int .i64 m, ?_, by simp [VRep]⟩
  rw [exec_builtin ho]
  have hr : (Builtin.len_ tys o.type #[ρ x]).run P X.w = .ok (.int .i64 m) X.w := by
    simp only [Builtin.len_, hty, List.getElem?_toArray, List.getElem?_cons_zero]
    simp only [VRep] at h1
    obtain ⟨a, c, _, _, _, h3, _⟩ := h1
    rw [h3]
    simp only [Sem.run_bind, run_under hu, Result.andThen_ok]
    rfl
  have e1 : (#[x].map ρ : Array Value) = #[ρ x] := by simp
  rw [e1]
  exact run_val (ρ := ρ) (x := Builtin.len_ tys o.type #[ρ x]) hr
theorem row_split {rows : List (List V)} {e i : Nat} {r : List V} (hl : ∀ r ∈ rows, r.length = e) (hi : rows[i]? = some r) : (rows.flatten.drop (i * e)).take e = r ∧ r.length = e ∧ i * e + e ≤ rows.flatten.length := by
  have hlt := (List.getElem?_eq_some_iff.1 hi).1
  have hr : r.length = e := hl r (List.mem_of_getElem? hi)
  have hf := flat_len hl
  have h2 : (i + 1) * e ≤ rows.length * e := Nat.mul_le_mul_right e hlt
  rw [Nat.add_mul] at h2
  refine ⟨?_, hr, by omega⟩
  have key : ∀ (rows : List (List V)) (i : Nat), (∀ r ∈ rows, r.length = e) → rows[i]? = some r → (rows.flatten.drop (i * e)).take e = r := by
    intro rows
    induction rows with
    | nil => intro i _ hi; simp at hi
    | cons x rows ih =>
      intro i hl hi
      have hx := hl x (List.mem_cons_self ..)
      cases i with
      | zero => simp at hi; subst hi; rw [Nat.zero_mul, List.drop_zero, List.flatten_cons, List.take_append_of_le_length (by omega), List.take_of_length_le (by omega)]
      | succ i =>
        simp at hi
        rw [List.flatten_cons, List.drop_append, List.drop_of_length_le (by rw [hx, Nat.add_mul]; omega), List.nil_append, hx, show (i + 1) * e - e = i * e by rw [Nat.add_mul]; omega]
        exact ih i (fun r' hr' => hl r' (List.mem_cons_of_mem _ hr')) hi
  exact key rows i hl hi
theorem row_cell {rows : List (List V)} {e i c : Nat} {r : List V} {v : V} (hl : ∀ r ∈ rows, r.length = e) (hi : rows[i]? = some r) (hc : r[c]? = some v) : rows.flatten[i * e + c]? = some v := by
  obtain ⟨h1, h2, h3⟩ := row_split hl hi
  have hlt := (List.getElem?_eq_some_iff.1 hc).1
  rw [← h1, List.getElem?_take, if_pos (by omega), List.getElem?_drop] at hc
  exact hc
theorem gref_at {n k ver o e : Nat} {X : Ctx} {u : Value} {rows : List (List V)} (hR : R n X) (hv : VRep X (.gref k ver o) u) (hk : X.bx k = .gcells ver e rows) (h0 : rows ≠ []) :
    ∃ us rest ty, u = .pointer (some ⟨X.bl k, o, none⟩) ∧ X.O (X.bl k) = .box k ∧ X.w.heap[X.bl k]? = some (.cells (us ++ rest).toArray ty (0, 0)) ∧ RowRep X rows.flatten us ∧ us.length = rows.length * e ∧ (∀ x ∈ us, oneV x = true) ∧ (∀ r ∈ rows, r.length = e) := by
  simp only [VRep] at hv
  obtain ⟨ad, v', e', rows', h1, h3, h4, h5⟩ := hv
  rw [hk] at h3; cases h3
  obtain ⟨r1, r2⟩ := hR.gbox k ver e rows hk
  rcases r2 with rfl | ⟨j1, us, rest, ty, j2, j3, j4, j5⟩
  · exact absurd rfl h0
  · rw [h5 rfl] at h1
    exact ⟨us, rest, ty, h1, j1, j2, j3, j4, j5, r1⟩
theorem step_load_g1 {ty : TypeId} {x : Operand} {k ver q e i c : Nat} {rows : List (List V)} {r : List V} {v : V} (ho : o.op = .load ty x) (hx : ev t x = .gref k ver q) (ht : OneT P ty) (hi : rows[i]? = some r) (hc : r[c]? = some v) (hq : q = i * e + c) : StepOK P o t [(k, .gcells ver e rows)] [] v := by
  refine step_value fun n X ρ hR hop hpre => ?_
  have h1 := hop x (by simp [ho, Op.operands])
  rw [hx] at h1
  have hk : X.bx k = .gcells ver e rows := hpre (k, .gcells ver e rows) (by simp)
  obtain ⟨us, rest, ty', h2, h3, h4, h5, h6, h7, h8⟩ := gref_at hR h1 hk (by rintro rfl; simp at hi)
  obtain ⟨u, g4, g5⟩ := RowRep.get q h5 (hq ▸ row_cell h8 hi hc)
  obtain ⟨⟨d, hd, hd'⟩, _⟩ := ht
  refine ⟨u, ?_, g5⟩
  have hc : X.w.cell? ⟨X.bl k, q, none⟩ = some u := by rw [cell_some h4, List.getElem?_append_left (List.getElem?_eq_some_iff.1 g4).1]; exact g4
  exact exec_run (exec_load ho) (by rw [h2]; exact run_loadOne hd hd' hc)
theorem rows_set_flat {e : Nat} : ∀ {rows : List (List V)} {i c : Nat} {r : List V} (ds : List V), (∀ r ∈ rows, r.length = e) → rows[i]? = some r → c + ds.length ≤ e → (rows.set i (setSeg r c ds)).flatten = rows.flatten.take (i * e + c) ++ ds ++ rows.flatten.drop (i * e + c + ds.length)
  | [], i, c, r, ds, hl, hi, hc => by simp at hi
  | x :: rows, i, c, r, ds, hl, hi, hc => by
    have hx := hl x (List.mem_cons_self ..)
    cases i with
    | zero =>
      simp at hi; subst hi
      simp only [List.set_cons_zero, List.flatten_cons, setSeg, Nat.zero_mul, Nat.zero_add]
      rw [List.take_append_of_le_length (by omega), List.drop_append_of_le_length (by omega)]
      simp
    | succ i =>
      simp at hi
      rw [List.set_cons_succ, List.flatten_cons, rows_set_flat ds (fun r' hr' => hl r' (List.mem_cons_of_mem _ hr')) hi hc, List.flatten_cons]
      rw [show (i + 1) * e + c = e + (i * e + c) by rw [Nat.add_mul]; omega, List.take_append, List.take_of_length_le (l := x) (by omega), hx, show e + (i * e + c) - e = i * e + c by omega, List.drop_append, List.drop_of_length_le (l := x) (by omega), List.nil_append, hx, show e + (i * e + c) + ds.length - e = i * e + c + ds.length by omega]
      simp
theorem setSeg_len {α : Type} {cs ds : List α} {c : Nat} (h : c + ds.length ≤ cs.length) : (setSeg cs c ds).length = cs.length := by simp [setSeg]; omega
theorem rows_set_lens {e : Nat} {rows : List (List V)} {i : Nat} {r : List V} (hl : ∀ r ∈ rows, r.length = e) (hr : r.length = e) : ∀ x ∈ rows.set i r, x.length = e := by
  intro x hx
  rcases List.mem_or_eq_of_mem_set hx with h | h
  · exact hl x h
  · rw [h]; exact hr
/-- A part of a row, written. -/
theorem step_store_g {ty : TypeId} {x y : Operand} {k ver q e i c m : Nat} {rows : List (List V)} {r : List V} {v : V} (ho : o.op = .store ty x y) (hx : ev t x = .gref k ver q) (hy : ev t y = v) (hs : v.stor = true) (ht : (P.info? ty).map (·.size) = some m) (hm : v.cs.length = m)
    (hi : rows[i]? = some r) (hc : c + m ≤ e) (hq : q = i * e + c) : StepOK P o t [(k, .gcells ver e rows)] [(k, .gcells ver e (rows.set i (setSeg r c v.cs)))] .junk := by
  intro n X a next Q hR hop hpre hup hk
  have h1 := hop x (by simp [ho, Op.operands])
  have h2 := hop y (by simp [ho, Op.operands])
  rw [hx] at h1; rw [hy] at h2
  have hb : X.bx k = .gcells ver e rows := hpre (k, .gcells ver e rows) (by simp)
  obtain ⟨us, rest, ty', g0, hO, h4, h5, h6, h7, h8⟩ := gref_at hR h1 hb (by rintro rfl; simp at hi)
  obtain ⟨vs, g1, g2, g3⟩ := rep_cells h2 hs
  have hvl : vs.length = m := by rw [← g2.length]; exact hm
  obtain ⟨s1, s2, s3⟩ := row_split h8 hi
  have hfl := flat_len h8
  obtain ⟨w', r1, r2, r3, r4, r5, r6, r7⟩ := run_storeCells (P := P) (b := X.bl k) vs q 0 X.w (us ++ rest) ty' h4 (by simp; omega) g3
  have hrun : (execOp a.eval o).run P X.w = .ok .skip w' := by
    rw [exec_store ho, g0]
    have hsz : (Array.size (a.eval y).cells) = m := by rw [g1]; simpa using hvl
    simp only [Instr.storeAt, Instr.sureAddr, storeVar, Sem.run_bind, Sem.run_pure, Result.andThen_ok, run_size ht, hsz, ne_eq, not_true_eq_false, if_false]
    rw [g1]
    simp only [r1, Result.andThen_ok]
  have e1 : (us ++ rest).take (q + 0) ++ vs ++ (us ++ rest).drop (q + 0 + vs.length) = (us.take q ++ vs ++ us.drop (q + m)) ++ rest := by
    rw [Nat.add_zero, hvl, List.take_append_of_le_length (by omega), List.drop_append_of_le_length (by omega)]; simp
  rw [e1] at r7
  have hnew : RowRep X (rows.set i (setSeg r c v.cs)).flatten (us.take q ++ vs ++ us.drop (q + m)) := by
    rw [rows_set_flat v.cs h8 hi (by omega), ← hq, hm]
    exact ((h5.take q).append g2).append (h5.drop (q + m))
  have hone : ∀ x ∈ us.take q ++ vs ++ us.drop (q + m), oneV x = true := by
    intro x hx
    rcases List.mem_append.1 hx with hx | hx
    · rcases List.mem_append.1 hx with hx | hx
      · exact h7 x (List.mem_of_mem_take hx)
      · exact g3 x hx
    · exact h7 x (List.mem_of_mem_drop hx)
  obtain ⟨e2, e3⟩ := g_write (v' := ver) hR hb hO (Nat.le_refl _) rfl h4 r2 r3 r4 r5 r6 r7 (by simp; omega) (rows_set_lens h8 ((setSeg_len (by omega)).trans s2)) hnew (by simp; omega) hone
  unfold Oper.wp
  rw [hrun]
  exact hk _ undef rfl e2 e3 (by simp [VRep])
theorem setSeg_one {α : Type} {cs : List α} {c : Nat} {v : α} (h : c < cs.length) : setSeg cs c [v] = cs.set c v := by
  unfold setSeg
  rw [List.set_eq_take_append_cons_drop, if_pos h]; simp
theorem step_store_g1 {ty : TypeId} {x y : Operand} {k ver q e i c : Nat} {rows : List (List V)} {r : List V} {v : V} (ho : o.op = .store ty x y) (hx : ev t x = .gref k ver q) (hy : ev t y = v) (ht : OneT P ty) (hs : v.stor = true) (hv : v.isAgg = false)
    (hi : rows[i]? = some r) (hr : r.length = e) (hc : c < e) (hq : q = i * e + c) : StepOK P o t [(k, .gcells ver e rows)] [(k, .gcells ver e (rows.set i (r.set c v)))] .junk := by
  have := step_store_g (c := c) ho hx hy hs ht.2 (by rw [V.cs_one hs hv]; rfl) hi (by omega) hq
  rw [V.cs_one hs hv, setSeg_one (by omega)] at this
  exact this
/-! ### append, cuts -/
theorem step_append_g {ty el ty2 : TypeId} {tys : Array TypeId} {e k ver len : Nat} {x y : Operand} {vy : V} {rows ys xs' : List (List V)} (ho : o.op = .call { callee := .builtin .append, args := #[x, y], argTypes := tys })
    (h0 : tys[0]? = some ty) (h1 : tys[1]? = some ty2) (hu : P.underlying ty = some (.slice el)) (hu2 : ∃ d, P.underlying ty2 = some d ∧ ∀ k, d ≠ .int k) (he : ElemT P el e)
    (hx : ev t x = .gsl k ver 0 len e) (hy : ev t y = vy) (hvy : Gives vy e ys pre) (hlr : len ≤ rows.length) (hb : len + ys.length ≤ 1073741824) (hxs : rows.take len ++ ys = xs') :
    StepOK P o t ((k, .gcells ver e rows) :: pre) [(k, .gcells (ver + 1) e xs')] (.gsl k (ver + 1) 0 (len + ys.length) e) := by
  subst hxs
  intro n X a next Q hR hop hpre hup hk
  have g1 := hop x (by simp [ho, Op.operands, Call.operands])
  have g2 := hop y (by simp [ho, Op.operands, Call.operands])
  rw [hx] at g1; rw [hy] at g2
  have hkd : X.bx k = .gcells ver e rows := hpre (k, .gcells ver e rows) (by simp)
  have hkn : k < n := hup (k, .gcells (ver + 1) e (rows.take len ++ ys)) (by simp)
  obtain ⟨l1, l2, new, l3, l4, l5, l6⟩ := hvy P n X _ hR g2 (fun p hp => hpre p (List.mem_cons_of_mem _ hp))
  have l7 : ∀ d, (Builtin.firstCells e ys.length (a.eval y)).run P { X.w with drawn := d } = .ok new.toArray { X.w with drawn := d } := fun d => by have := l6 d _ (Nat.le_refl _); rw [take_all l4] at this; exact this
  have hex : execOp a.eval o = (do pure (.value (← Builtin.append_ tys o.type #[a.eval x, a.eval y]))) := by
    rw [exec_builtin ho]
    have e1 : (#[x, y].map a.eval : Array Value) = #[a.eval x, a.eval y] := by simp
    rw [e1]; rfl
  obtain ⟨r1, r2⟩ := hR.gbox k ver e rows hkd
  have hg1 := g1
  simp only [VRep, Nat.zero_mul, Nat.zero_add] at g1
  obtain ⟨ad, cap, v', e0, rows', hs, hcap, hbx, hver, hcase⟩ := g1
  rw [hkd] at hbx; cases hbx
  have hcase := hcase rfl
  -- what it holds
  have hold : ∃ old, RowRep X (rows.take len).flatten old ∧ old.length = len * e ∧ (∀ x ∈ old, oneV x = true) ∧ ∀ d, (Builtin.firstCells e len (.slice ad len cap)).run P { X.w with drawn := d } = .ok old.toArray { X.w with drawn := d } := by
    by_cases hl0 : len = 0
    · subst hl0
      refine ⟨[], by simp [RowRep], by simp, by simp, fun d => ?_⟩
      cases ad with
      | none => rfl
      | some ad => simp [Builtin.firstCells, loadCells, loadCellsFrom]
    · obtain ⟨c, us, rest, ty', k1, k2, k3, k4, k5, k6, k7, k8, k9⟩ := gsl_at hR hg1 hkd (by omega) (by omega)
      rw [hs] at k1
      cases k1
      have hrr := rows_cut 0 len k5 k8
      rw [List.drop_zero, Nat.zero_mul, List.drop_zero] at hrr
      have hle : len * e ≤ rows.length * e := Nat.mul_le_mul_right e hlr
      refine ⟨us.take (len * e), hrr, by simp; omega, fun x hx => k7 x (List.mem_of_mem_take hx), fun d => ?_⟩
      have := run_loadCells_list (P := P) { X.w with drawn := d } ⟨X.bl k, 0 * e, none⟩ (us.take (len * e)) (fun j v hj => by
        rw [addr_add]
        show X.w.cell? _ = _
        rw [cell_some k4, Nat.zero_mul, Nat.zero_add]
        rw [List.getElem?_take] at hj
        split at hj
        · rw [List.getElem?_append_left (List.getElem?_eq_some_iff.1 hj).1]; exact hj
        · cases hj)
      have hll : (us.take (len * e)).length = len * e := by simp; omega
      rw [hll] at this
      exact this
  obtain ⟨old, o1, o2, o3, o4⟩ := hold
  have hll : ∀ r ∈ rows.take len ++ ys, r.length = e := fun r hr => (List.mem_append.1 hr).elim (fun h => r1 r (List.mem_of_mem_take h)) (l2 r)
  have hnl : (rows.take len ++ ys).length = len + ys.length := by simp; omega
  have h11 : ∀ x ∈ old ++ new, oneV x = true := fun x hx => (List.mem_append.1 hx).elim (o3 x) (l5 x)
  have hrr : RowRep X (rows.take len ++ ys).flatten (old ++ new) := by rw [List.flatten_append]; exact o1.append l3
  have hul : (old ++ new).length = (rows.take len ++ ys).length * e := by rw [hnl, List.length_append, o2, l4, Nat.add_mul]
  have key : ∃ X' u', (Builtin.append_ tys o.type #[a.eval x, a.eval y]).run P X.w = .ok u' X'.w ∧ X'.bx = upd X.bx k (.gcells (ver + 1) e (rows.take len ++ ys)) ∧ R n X' ∧ Ext X X' ∧ VRep X' (.gsl k (ver + 1) 0 (len + ys.length) e) u' := by
    rw [hs]
    by_cases hroom : len + ys.length ≤ cap
    · by_cases hys : ys.length = 0
      · have hy0 : ys = [] := List.length_eq_zero_iff.1 hys
        subst hy0
        have hnew : new = [] := by simp at l4; exact List.length_eq_zero_iff.1 (by simpa using l4)
        subst hnew
        by_cases hl0 : len = 0
        · subst hl0
          obtain ⟨t1, t2⟩ := g_bare (v' := ver + 1) (e := e) hR (.inr ⟨ver, rows, hkd, by omega⟩) hkn
          refine ⟨{ X with bx := upd X.bx k (.gcells (ver + 1) e []) }, _, run_append_room (w' := X.w) h0 h1 hu hu2 he.size l1 hroom o.type (l7 X.w.drawn) ?_, by simp, t1, t2, ?_⟩
          · cases ad with
            | none => rfl
            | some ad => simp [storeCells]
          · simp only [VRep]
            refine ⟨ad, cap, ver + 1, e, [], rfl, by simp, upd_eq _ _ _, Nat.le_refl _, fun _ => ?_⟩
            simpa using hcase
        · obtain ⟨c, us, rest, ty', k1, k2, k3, k4, k5, k6, k7, k8, k9⟩ := gsl_at hR hg1 hkd (by omega) (by omega)
          rw [hs] at k1; cases k1
          have hle : len * e ≤ rows.length * e := Nat.mul_le_mul_right e hlr
          have hrr2 := rows_cut 0 len k5 k8
          rw [List.drop_zero, Nat.zero_mul, List.drop_zero] at hrr2
          obtain ⟨t1, t2⟩ := g_write (v' := ver + 1) (rows' := rows.take len) (us' := us.take (len * e)) (rest' := us.drop (len * e) ++ rest) (w' := X.w) hR hkd k3 (by omega) rfl k4 rfl rfl rfl rfl (fun _ _ => rfl) (by rw [k4, ← List.append_assoc, List.take_append_drop]) (by simp; omega) (fun r hr => k8 r (List.mem_of_mem_take hr)) hrr2 (by rw [List.length_take, List.length_take, k6, Nat.min_eq_left hle, Nat.min_eq_left hlr]) (fun x hx => k7 x (List.mem_of_mem_take hx))
          rw [List.append_nil]
          refine ⟨{ X with bx := upd X.bx k (.gcells (ver + 1) e (rows.take len)) }, _, run_append_room (w' := X.w) h0 h1 hu hu2 he.size l1 hroom o.type (l7 X.w.drawn) ?_, rfl, t1, t2, ?_⟩
          · simp [storeCells]
          · simp only [VRep]
            refine ⟨_, cap, ver + 1, e, rows.take len, rfl, by simpa using hcap, upd_eq _ _ _, Nat.le_refl _, fun _ => ?_⟩
            rcases hcase with h | h
            · exact .inl h
            · exact .inr (by simpa using h)
      · rcases hcase with rfl | ⟨rfl, hO, us0, ty0, hh0, hcz⟩
        · omega
        · have hcape : (len + ys.length) * e ≤ cap * e := Nat.mul_le_mul_right e hroom
          rw [Nat.add_mul] at hcape
          obtain ⟨w', q1, q2, q3, q4, q5, q6, q7⟩ := run_storeCells (P := P) (b := X.bl k) new (len * e) 0 X.w us0.toList ty0 (by simpa using hh0) (by simp; omega) l5
          rw [Nat.add_zero] at q7
          -- the old cells are the block's first
          have hfirst : us0.toList.take (len * e) = old := by
            by_cases hl0 : len = 0
            · subst hl0
              have : old = [] := List.length_eq_zero_iff.1 (by simpa using o2)
              simp [this]
            · have hx0 := run_loadCells_list (P := P) { X.w with drawn := X.w.drawn } ⟨X.bl k, 0, none⟩ (us0.toList.take (len * e)) (fun j v hj => by
                rw [addr_add]
                show X.w.cell? _ = _
                rw [cell_some (us := us0.toList) (ty := ty0) (fr := (0, 0)) (by simpa using hh0), Nat.zero_add]
                rw [List.getElem?_take] at hj
                split at hj
                · exact hj
                · cases hj)
              have hlz : (us0.toList.take (len * e)).length = len * e := by simp; omega
              rw [hlz] at hx0
              have hx1 := o4 X.w.drawn
              have hx2 : (Builtin.firstCells e len (.slice (some ⟨X.bl k, 0, none⟩) len cap)) = loadCells ⟨X.bl k, 0, none⟩ (len * e) := rfl
              rw [hx2, hx0] at hx1
              have : (us0.toList.take (len * e)).toArray = old.toArray := by
                injection hx1
              simpa using congrArg Array.toList this
          have hlast : us0.toList.take (len * e) ++ new ++ us0.toList.drop (len * e + new.length) = (old ++ new) ++ us0.toList.drop (len * e + new.length) := by rw [hfirst]
          rw [hlast] at q7
          obtain ⟨t1, t2⟩ := g_write (v' := ver + 1) (us := us0) (ty := ty0) hR hkd hO (by omega) rfl hh0 q2 q3 q4 q5 q6 q7 (by simp [o2, l4]; omega) hll hrr hul h11
          refine ⟨_, _, run_append_room (w' := w') h0 h1 hu hu2 he.size l1 hroom o.type (l7 X.w.drawn) ?_, rfl, t1, t2, ?_⟩
          · show (storeCells ((⟨X.bl k, 0, none⟩ : Addr).add (len * e)) new).run P X.w = _
            rw [addr_add, Nat.zero_add]; exact q1
          · simp only [VRep, Nat.zero_mul, Nat.zero_add]
            refine ⟨_, cap, ver + 1, e, _, rfl, hroom, upd_eq _ _ _, Nat.le_refl _, fun _ => .inr ⟨rfl, hO, _, ty0, q7, ?_⟩⟩
            simp [o2, l4]; omega
    · obtain ⟨d, c, rest, hc, hrl, hrun⟩ := run_append_new (P := P) (w := X.w) (a := ad) (cap := cap) h0 h1 hu hu2 he l1 (by omega) hb o.type o4 l7
      obtain ⟨X', x1, x2, x3, x4, x5, x6⟩ := g_new (k := k) (v' := ver + 1) (e := e) (rest' := rest) (ty := el) hR (.inr ⟨ver, rows, hkd, by omega⟩) hkn d hll hrr hul h11
      refine ⟨X', _, by rw [hrun, ← x2], x1, x5, x6, ?_⟩
      simp only [VRep, Nat.zero_mul, Nat.zero_add]
      refine ⟨_, c, ver + 1, e, _, rfl, hc, by rw [x1, upd_eq], Nat.le_refl _, fun _ => .inr ⟨by rw [x3], by rw [x3]; exact x4, (old ++ new ++ rest).toArray, el, by rw [x3, x2]; show (X.w.heap.push _)[X.w.heap.size]? = _; simp, ?_⟩⟩
      simp only [List.size_toArray, List.length_append, o2, l4, hrl]
      rw [← Nat.add_mul, ← Nat.add_mul]
      rw [show len + ys.length + (c - (len + ys.length)) = c by omega]
      omega
  obtain ⟨X', u', k1, k2, k3, k4, k5⟩ := key
  unfold Oper.wp
  rw [exec_run hex k1]
  exact hk X' u' k2 k3 k4 k5
theorem step_slice_g {ty el : TypeId} {x : Operand} {lo hi : Option Operand} {e k ver q len l h q' n' : Nat} (ho : o.op = .slice ty x lo hi none) (hx : ev t x = .gsl k ver q len e) (hu : P.underlying ty = some (.slice el)) (he : (P.info? el).map (·.size) = some e)
    (hlo : bndLo (lo.map (ev t)) = some l) (hhi : bndHi len (hi.map (ev t)) = some h) (hlh : l ≤ h) (hh : h ≤ len) (hq : q + l = q') (hn : h - l = n') : StepOK P o t [] [] (.gsl k ver q' n' e) := by
  subst hq hn
  refine step_value fun n X ρ hR hop hpre => ?_
  obtain ⟨h1, h2⟩ := slice_ops ho hop
  rw [hx] at h1
  simp only [VRep] at h1
  obtain ⟨a, c, v', e0, rows, g1, g2, g3, g4, g5⟩ := h1
  refine ⟨.slice (if c = l then a else a.map (·.add (l * e))) (h - l) (c - l), exec_run (exec_slice ho) ?_, ?_⟩
  · rw [g1]
    unfold Instr.sliceAt
    simp only [Sem.run_bind, run_under hu, Result.andThen_ok, Instr.slice]
    rw [run_bounds (X := X) (m := c) h2 hlo hhi rfl (by simp) hlh (by omega) (Nat.le_refl _)]
    simp only [Result.andThen_ok, run_size he]
    rfl
  · simp only [VRep]
    refine ⟨_, c - l, v', e0, rows, rfl, by omega, g3, g4, fun hv => ?_⟩
    by_cases hcl : c = l
    · exact .inl (by omega)
    · rcases g5 hv with g5 | ⟨rfl, k2, us, ty, k3, k4⟩
      · exact .inl (by omega)
      · refine .inr ⟨?_, k2, us, ty, k3, ?_⟩
        · rw [if_neg hcl, Option.map_some, addr_add, Nat.add_mul]
        · rw [show q + l + (c - l) = q + c by omega]; exact k4
end
section
variable {P : Program} {B : Bas} {N : Nat} {Q : Exit → S → Prop} {l : List (Nat × V)} {n : Nat} {bx : Nat → Box}
theorem row_swap {X : Ctx} {v v' : V} (h : ∀ u, VRep X v u → VRep X v' u) : ∀ {cs : List V} {us : List Value} {q : Nat}, RowRep X cs us → cs[q]? = some v → RowRep X (cs.set q v') us
  | [], us, q, _, hq => by simp at hq
  | w :: vs, us, q, hr, hq => by
    simp only [RowRep] at hr
    obtain ⟨u, us', rfl, g1, g2⟩ := hr
    cases q with
    | zero => simp at hq; subst hq; simp only [List.set_cons_zero, RowRep]; exact ⟨u, us', rfl, h u g1, g2⟩
    | succ q => simp only [List.set_cons_succ, RowRep]; exact ⟨u, us', rfl, g1, row_swap h g2 (by simpa using hq)⟩
/-- The same of a nil slice in a box. -/
theorem runs_growgb {c : Code} {k kn e q : Nat} {cs : List V} (hk : bx k = .cells cs) (hq : cs[q]? = some (.sc (.slice none 0 0))) (hd : bx kn = .dead) (hn : kn < n) (hne : kn ≠ k) (h : Runs P B N c ⟨mk l, n, upd (upd bx kn (.gcells 0 e [])) k (.cells (cs.set q (.gsl kn 0 0 0 e)))⟩ Q) : Runs P B N c ⟨mk l, n, bx⟩ Q := by
  intro X a hs
  have hXd : X.bx kn = .dead := by rw [hs.bx]; exact hd
  have hX : X.bx k = .cells cs := by rw [hs.bx]; exact hk
  obtain ⟨t1, t2⟩ := g_bare (v' := 0) (e := e) hs.rr (.inl hXd) hn
  have hX1 : (upd X.bx kn (.gcells 0 e [])) k = .cells cs := by rw [upd_ne _ _ _ _ (Ne.symm hne)]; exact hX
  obtain ⟨h1, us, ty, h2, h3, h4⟩ := t1.box k cs hX1
  have hrow : RowRep { X with bx := upd X.bx kn (.gcells 0 e []) } (cs.set q (.gsl kn 0 0 0 e)) us := row_swap (fun u g1 => by
    simp only [VRep] at g1 ⊢
    exact ⟨none, 0, 0, e, [], g1, Nat.le_refl _, upd_eq _ _ _, Nat.le_refl _, fun _ => .inl rfl⟩) h3 hq
  obtain ⟨e1, e2⟩ := set_box (X := { X with bx := upd X.bx kn (.gcells 0 e []) }) (w' := X.w) t1 hX1 rfl rfl rfl rfl (fun _ _ => rfl) ⟨ty, h2⟩ hrow h4
  exact h { X with bx := upd (upd X.bx kn (.gcells 0 e [])) k (.cells (cs.set q (.gsl kn 0 0 0 e))) } a ⟨e1, by show upd (upd X.bx kn _) k _ = upd (upd bx kn _) k _; rw [show X.bx = bx from hs.bx], fun i => VRep.mono e2 _ _ (VRep.mono t2 _ _ (hs.t i)), hs.N, hs.defers.mono (t2.trans e2) rfl, (hs.ext.trans t2).trans e2⟩
end
end Go.Vm
namespace Go.Vm
section
variable {P : Program} {B : Bas} {N : Nat} {Q : Exit → S → Prop} {ops : Array Oper} {L : List Oper} {o : Oper} {l : List (Nat × V)} {n : Nat} {bx : Nat → Box} {acc : List Ac}
theorem lt_gcells {n k v e : Nat} {bx : Nat → Box} {rows : List (List V)} (hd : ∀ k, n ≤ k → bx k = .dead) (h : bx k = .gcells v e rows) : k < n := Nat.lt_of_not_le fun hn => by rw [hd k hn] at h; cases h
theorem rl3 {pre : List (Nat × Box)} {d k k' k2 : Nat} {b b' b2 : Box} {v : V} (hg : GuardOK N ops l o) (hd : o.dst = some d) (hN : Nat.blt d N = true) (hs : StepOK P o (mk l) pre [(k, b), (k', b'), (k2, b2)] v) (hp : PreOK bx pre) (hk : k < n) (hk' : k' < n) (hk2 : k2 < n) (h : RunsL P B N ops L ⟨mk ((d, v) :: l), n, upd (upd (upd bx k b) k' b') k2 b2⟩ Q) : RunsL P B N ops (o :: L) ⟨mk l, n, bx⟩ Q :=
  rl_any hg (by rw [hd]; exact hN) hs hp (by intro p hp; simp only [List.mem_cons, List.not_mem_nil, or_false] at hp; rcases hp with rfl | rfl | rfl <;> assumption) (by rw [hd]; exact h)
theorem rl_know {d : Nat} {b c : Bool} (hb : lk l d = some (.sc (.bool b))) (hc : b = c) (h : RunsL P B N ops L ⟨mk ((d, .sc (.bool c)) :: l), n, bx⟩ Q) : RunsL P B N ops L ⟨mk l, n, bx⟩ Q := by
  refine rl_bool hb (fun h1 => ?_) (fun h1 => ?_)
  · rw [← h1, hc]; exact h
  · rw [← h1, hc]; exact h
theorem dl_know {d : Nat} {b c : Bool} (hb : lk l d = some (.sc (.bool b))) (hc : b = c) (h : DrawL P N n ops Q L (mk ((d, .sc (.bool c)) :: l)) bx acc) : DrawL P N n ops Q L (mk l) bx acc := by
  refine dl_bool hb (fun h1 => ?_) (fun h1 => ?_)
  · rw [← h1, hc]; exact h
  · rw [← h1, hc]; exact h
end
section
variable {P : Program} {o : Oper} {ty ty2 : TypeId} {x y : Operand} {k yk : IntKind} {a b r : Int} {t : Nat → V} {l : List (Nat × V)}
end
theorem step_callfn {P : Program} {o : Oper} {l : List (Nat × V)} {f : FuncId} {g : Operand} {gv : V} {fn : Func} {xs : Array Operand} {tys : Array TypeId} {vs vs' cap : List V} {pre up : List (Nat × Box)} {r : V} (ho : o.op = .call { callee := .value g, args := xs, argTypes := tys }) (hgv : ev (mk l) g = gv) (hg : gv = .fn f cap ∨ (gv = .sc (.func (.func f) #[] #[]) ∧ cap = []))
    (hf : P.funcs[f]? = some fn) (hname : (fn.name == "runtime.NumGoroutine") = false) (hb : fn.body.isSome = true) (hvs : (lks l xs.toList).map (· ++ cap) = some vs) (h : Does P f vs' pre up r) (hl : VLes vs vs') : StepOK P o (mk l) pre up r := by
  obtain ⟨ws, h1, h2⟩ : ∃ ws, lks l xs.toList = some ws ∧ ws ++ cap = vs := by
    cases hq : lks l xs.toList with
    | none => rw [hq] at hvs; cases hvs
    | some ws => rw [hq] at hvs; exact ⟨ws, rfl, by simpa using hvs⟩
  exact step_call_fn ho (by rw [hgv]; exact hg) (by rw [evs_mk h1]; exact h2) hf hname hb (h.le hl)
end Go.Vm
namespace Go.Vm
section
variable {P : Program} {o : Oper} {t : Nat → V}
end
end Go.Vm
namespace Go.Vm
section
variable {P : Program} {o : Oper} {t : Nat → V}
end
end Go.Vm
