/- A logic of values over the model. Part E: slices made, cut, appended to. -/
import Derived.Test.YthpkhecialkmmaaKeVmD
set_option linter.unusedVariables false
set_option linter.unusedSimpArgs false
namespace Go.Vm
section
variable {P : Program} {o : Oper} {t : Nat → V} {pre up : List (Nat × Box)} {val : V}
/-! ### Rows, flat -/
theorem RowsAt.flat {X : Ctx} {e : Nat} : ∀ {xs : List (List V)} {b q : Nat}, RowsAt X e xs b q → ∃ us, RowRep X xs.flatten us ∧ us.length = xs.length * e ∧ (∀ j v, us[j]? = some v → X.w.cell? ⟨b, q + j, none⟩ = some v) ∧ ∀ x ∈ us, oneV x = true
  | [], b, q, h => ⟨[], by simp [RowRep], by simp, by simp, by simp⟩
  | r :: rs, b, q, h => by
    simp only [RowsAt] at h
    obtain ⟨h1, h2, h3⟩ := h
    obtain ⟨us, g1, g2, g3⟩ := h2.row
    obtain ⟨us', k1, k2, k3, k4⟩ := RowsAt.flat h3
    have hl : us.length = e := by rw [← g1.length]; exact h1
    refine ⟨us ++ us', by simpa using g1.append k1, ?_, fun j v hj => ?_, ?_⟩
    · simp [hl, k2, Nat.add_mul]; omega
    · by_cases hlt : j < us.length
      · rw [List.getElem?_append_left hlt] at hj; exact g2 j v hj
      · rw [List.getElem?_append_right (by omega)] at hj
        have := k3 _ _ hj
        rw [show q + j = q + e + (j - us.length) by omega]
        exact this
    · intro x hx
      rcases List.mem_append.1 hx with hx | hx
      · exact g3 x hx
      · exact k4 x hx
theorem cellsAt_of {X : Ctx} {b : Nat} : ∀ {vs : List V} {us : List Value} {q : Nat}, RowRep X vs us → (∀ j v, us[j]? = some v → X.w.cell? ⟨b, q + j, none⟩ = some v) → (∀ j, j < us.length → Stb (X.O b) (q + j)) → (∀ x ∈ us, oneV x = true) → CellsAt X vs b q
  | [], us, q, h, hc, hs, h1 => by simp [CellsAt]
  | v :: vs, us, q, h, hc, hs, h1 => by
    simp only [RowRep] at h
    obtain ⟨u, us', rfl, h2, h3⟩ := h
    simp only [CellsAt]
    refine ⟨⟨u, by simpa using hc 0 u rfl, h2, by simpa using hs 0 (by simp), h1 u (List.mem_cons_self ..)⟩, cellsAt_of h3 (fun j v hj => ?_) (fun j hj => ?_) (fun x hx => h1 x (List.mem_cons_of_mem _ hx))⟩
    · rw [show q + 1 + j = q + (j + 1) by omega]; exact hc (j + 1) v (by simpa using hj)
    · rw [show q + 1 + j = q + (j + 1) by omega]; exact hs (j + 1) (by simp; omega)
theorem rowsAt_of {X : Ctx} {b e : Nat} : ∀ {xs : List (List V)} {us : List Value} {q : Nat}, RowRep X xs.flatten us → (∀ r ∈ xs, r.length = e) → (∀ j v, us[j]? = some v → X.w.cell? ⟨b, q + j, none⟩ = some v) → (∀ j, j < us.length → Stb (X.O b) (q + j)) → (∀ x ∈ us, oneV x = true) → RowsAt X e xs b q
  | [], us, q, h, he, hc, hs, h1 => by simp [RowsAt]
  | r :: rs, us, q, h, he, hc, hs, h1 => by
    have hr : r.length = e := he r (List.mem_cons_self ..)
    have hf : (r :: rs).flatten = r ++ rs.flatten := by simp
    rw [hf] at h
    have ha : RowRep X r (us.take e) := by have := h.take e; rwa [← hr, List.take_left, hr] at this
    have hb : RowRep X rs.flatten (us.drop e) := by have := h.drop e; rwa [← hr, List.drop_left, hr] at this
    have hul : e ≤ us.length := by have := h.length; simp at this; omega
    simp only [RowsAt]
    refine ⟨hr, cellsAt_of ha (fun j v hj => ?_) (fun j hj => hs j (by simp at hj; omega)) (fun x hx => h1 x (List.mem_of_mem_take hx)), rowsAt_of hb (fun r' hr' => he r' (List.mem_cons_of_mem _ hr')) (fun j v hj => ?_) (fun j hj => ?_) (fun x hx => h1 x (List.mem_of_mem_drop hx))⟩
    · rw [List.getElem?_take] at hj
      split at hj
      · exact hc j v hj
      · cases hj
    · rw [List.getElem?_drop] at hj
      rw [Nat.add_assoc]
      exact hc _ v hj
    · rw [Nat.add_assoc]
      exact hs _ (by simp at hj; omega)
theorem RowsAt.lens {X : Ctx} {e : Nat} : ∀ {xs : List (List V)} {b q : Nat}, RowsAt X e xs b q → ∀ r ∈ xs, r.length = e
  | [], b, q, h => by simp
  | r :: rs, b, q, h => by
    simp only [RowsAt] at h
    intro r' hr'
    rcases List.mem_cons.1 hr' with rfl | hr'
    · exact h.1
    · exact RowsAt.lens h.2.2 r' hr'
theorem RowsAt.append {X : Ctx} {e : Nat} : ∀ {xs ys : List (List V)} {b q : Nat}, RowsAt X e xs b q → RowsAt X e ys b (q + xs.length * e) → RowsAt X e (xs ++ ys) b q
  | [], ys, b, q, h, g => by simpa using g
  | r :: rs, ys, b, q, h, g => by
    simp only [RowsAt] at h
    simp only [List.cons_append, RowsAt]
    refine ⟨h.1, h.2.1, RowsAt.append h.2.2 ?_⟩
    rw [List.length_cons, Nat.add_mul] at g
    rw [show q + e + rs.length * e = q + (rs.length * e + 1 * e) by omega]
    exact g
/-! ### Memory that grows -/
theorem new_tail {n k m : Nat} {X : Ctx} (h : R n X) (hk : X.bx k = .dead) (hn : k < n) : R n { X with bx := upd X.bx k (.tail m) } ∧ Ext X { X with bx := upd X.bx k (.tail m) } := by
  have he : Ext X { X with bx := upd X.bx k (.tail m) } := by
    refine ⟨fun b q hs => ⟨hs, rfl⟩, fun j hj => ⟨?_, rfl⟩, fun j m' hj => ⟨m', ?_, Nat.le_refl _, fun _ b st arr ty h1 h2 => ⟨h1, arr, h2, rfl⟩⟩, fun b hb => ⟨hb, rfl⟩, gc_same fun j v e rows hj => ?_, rfl, rfl, rfl, Nat.le_refl _⟩
    · have e : j ≠ k := by intro e; subst e; rw [hk] at hj; exact hj
      show (upd X.bx k _ j).is
      rw [upd_ne _ _ _ _ e]; exact hj
    · have e : j ≠ k := by intro e; subst e; rw [hk] at hj; cases hj
      exact (upd_ne _ _ _ _ e).trans hj
    · have e : j ≠ k := by intro e; subst e; rw [hk] at hj; cases hj
      exact ⟨(upd_ne _ _ _ _ e).trans hj, rfl, fun hOj => ⟨hOj, rfl⟩⟩
  have hgb := gbox_same h he fun j v e rows hj => by
    have hj' : upd X.bx k (.tail m) j = .gcells v e rows := hj
    have e : j ≠ k := by intro e; subst e; rw [upd_eq] at hj'; cases hj'
    rw [upd_ne _ _ _ _ e] at hj'
    exact ⟨hj', rfl, fun hOj => ⟨hOj, rfl⟩⟩
  have hob := obj_same h he fun j o hj => by
    have hj' : upd X.bx k (.tail m) j = .obj o := hj
    have e : j ≠ k := by intro e; subst e; rw [upd_eq] at hj'; cases hj'
    rw [upd_ne _ _ _ _ e] at hj'
    exact ⟨hj', rfl, fun hOj => ⟨hOj, rfl⟩⟩
  refine ⟨⟨fun j hj => (upd_ne _ _ _ _ (by omega)).trans (h.dead j hj), h.free, fun j cs hj => ?_, hgb, hob⟩, he⟩
  have e : j ≠ k := by intro e; subst e; have hj' : upd X.bx j (.tail m) j = .cells cs := hj; rw [upd_eq] at hj'; cases hj'
  have hj' : upd X.bx k (.tail m) j = .cells cs := hj
  rw [upd_ne _ _ _ _ e] at hj'
  obtain ⟨h1, us, ty, h2, h3, h4⟩ := h.box j cs hj'
  exact ⟨h1, us, ty, h2, RowRep.mono he _ _ h3, h4⟩
theorem new_grow {n k m st : Nat} {X : Ctx} {cells : Array Value} {ty : TypeId} (h : R n X) (hk : X.bx k = .dead ∨ ∃ m0, X.bx k = .tail m0 ∧ m0 < m) (hn : k < n) (d : Nat) :
    ∃ X', X'.bx = upd X.bx k (.tail m) ∧ X'.w = ({ X.w with drawn := d } : World).alloc (.cells cells ty (0, 0)) ∧ X'.O X.w.heap.size = .grow k st ∧ R n X' ∧ Ext X X' := by
  let X' : Ctx := { O := upd X.O X.w.heap.size (.grow k st), bl := X.bl, bx := upd X.bx k (.tail m), w := ({ X.w with drawn := d } : World).alloc (.cells cells ty (0, 0)) }
  have hfree := h.free X.w.heap.size (Nat.le_refl _)
  have hne : ∀ b, b ≠ X.w.heap.size → X'.w.heap[b]? = X.w.heap[b]? := by
    intro b hb
    show (X.w.heap.push _)[b]? = _
    rw [Array.getElem?_push, if_neg hb]
  have hOne : ∀ b, b ≠ X.w.heap.size → X'.O b = X.O b := fun b hb => upd_ne _ _ _ _ hb
  have he : Ext X X' := by
    refine ⟨fun b q hs => ?_, fun j hj => ⟨?_, rfl⟩, fun j m1 hj => ?_, fun b hb => ?_, gc_same fun j v e rows hj => ?_, rfl, rfl, rfl, by show _ ≤ (X.w.heap.push _).size; simp⟩
    · have : b ≠ X.w.heap.size := by intro e; subst e; rw [hfree] at hs; exact hs
      rw [hOne b this]
      exact ⟨hs, World.cell?_of_block (w := X.w) (a := ⟨b, q, none⟩) (hne b this)⟩
    · have e : j ≠ k := by intro e; subst e; rcases hk with hk | ⟨m0, hk, _⟩ <;> (rw [hk] at hj; exact hj)
      show (upd X.bx k _ j).is
      rw [upd_ne _ _ _ _ e]; exact hj
    · by_cases e : j = k
      · subst e
        rcases hk with hk | ⟨m0, hk, hlt⟩
        · rw [hk] at hj; cases hj
        · rw [hk] at hj; cases hj
          exact ⟨m, upd_eq _ _ _, by omega, fun hm => by omega⟩
      · refine ⟨m1, (upd_ne _ _ _ _ e).trans hj, Nat.le_refl _, fun _ b st arr ty h1 h2 => ?_⟩
        have : b ≠ X.w.heap.size := by intro e; subst e; rw [hfree] at h1; cases h1
        exact ⟨(hOne b this).trans h1, arr, (hne b this).trans h2, rfl⟩
    · have : b ≠ X.w.heap.size := by intro e; subst e; rw [hfree] at hb; cases hb
      rw [hOne b this]
      exact ⟨hb, hne b this⟩
    · have e : j ≠ k := by intro e; subst e; rcases hk with hk | ⟨m0, hk, _⟩ <;> (rw [hk] at hj; cases hj)
      refine ⟨(upd_ne _ _ _ _ e).trans hj, rfl, fun hOj => ?_⟩
      have : X.bl j ≠ X.w.heap.size := by intro e; rw [e, hfree] at hOj; cases hOj
      exact ⟨(hOne _ this).trans hOj, hne _ this⟩
  have hgb := gbox_same h he fun j v e rows hj => by
    have hj' : upd X.bx k (.tail m) j = .gcells v e rows := hj
    have e : j ≠ k := by intro e; subst e; rw [upd_eq] at hj'; cases hj'
    rw [upd_ne _ _ _ _ e] at hj'
    refine ⟨hj', rfl, fun hOj => ?_⟩
    have : X.bl j ≠ X.w.heap.size := by intro e; rw [e, hfree] at hOj; cases hOj
    exact ⟨(hOne _ this).trans hOj, hne _ this⟩
  have hob := obj_same h he fun j o hj => by
    have hj' : upd X.bx k (.tail m) j = .obj o := hj
    have e : j ≠ k := by intro e; subst e; rw [upd_eq] at hj'; cases hj'
    rw [upd_ne _ _ _ _ e] at hj'
    refine ⟨hj', rfl, fun hOj => ?_⟩
    have : X.bl j ≠ X.w.heap.size := by intro e; rw [e, hfree] at hOj; cases hOj
    exact ⟨(hOne _ this).trans hOj, hne _ this⟩
  refine ⟨X', rfl, rfl, upd_eq _ _ _, ⟨fun j hj => (upd_ne _ _ _ _ (by omega)).trans (h.dead j hj), fun b hb => ?_, fun j cs1 hj => ?_, hgb, hob⟩, he⟩
  · have hb' : (X.w.heap.push (Obj.cells cells ty (0, 0))).size ≤ b := hb
    rw [Array.size_push] at hb'
    rw [hOne b (by omega)]
    exact h.free b (by omega)
  · have e : j ≠ k := by intro e; subst e; have hj' : upd X.bx j (.tail m) j = .cells cs1 := hj; rw [upd_eq] at hj'; cases hj'
    have hj' : upd X.bx k (.tail m) j = .cells cs1 := hj
    rw [upd_ne _ _ _ _ e] at hj'
    obtain ⟨h1, us1, ty1, h2, h3, h4⟩ := h.box j cs1 hj'
    have : X.bl j ≠ X.w.heap.size := by intro e2; rw [e2] at h1; rw [hfree] at h1; cases h1
    show X'.O (X.bl j) = _ ∧ _
    rw [hOne _ this]
    exact ⟨h1, us1, ty1, (hne _ this).trans h2, RowRep.mono he _ _ h3, h4⟩
theorem grow_in {n k m m0 st st' b : Nat} {X : Ctx} {w' : World} {us us' : List Value} {ty : TypeId} (h : R n X) (hk : X.bx k = .tail m0) (hm : m0 < m) (hO : X.O b = .grow k st) (hst : st ≤ st') (hh : X.w.heap[b]? = some (.cells us.toArray ty (0, 0)))
    (hos : w'.os = X.w.os) (htape : w'.tape = X.w.tape) (hout : w'.output = X.w.output) (hsz : w'.heap.size = X.w.heap.size)
    (hne : ∀ b', b' ≠ b → w'.heap[b']? = X.w.heap[b']?) (hnew : w'.heap[b]? = some (.cells us'.toArray ty (0, 0))) (hsame : ∀ j, j < st → us'[j]? = us[j]?) :
    R n { X with O := upd X.O b (.grow k st'), bx := upd X.bx k (.tail m), w := w' } ∧ Ext X { X with O := upd X.O b (.grow k st'), bx := upd X.bx k (.tail m), w := w' } := by
  have hOne : ∀ b', b' ≠ b → upd X.O b (.grow k st') b' = X.O b' := fun b' hb => upd_ne _ _ _ _ hb
  have hkn : k < n := by
    apply Nat.lt_of_not_le
    intro hn
    rw [h.dead k hn] at hk; cases hk
  have he : Ext X { X with O := upd X.O b (.grow k st'), bx := upd X.bx k (.tail m), w := w' } := by
    refine ⟨fun b' q hs => ?_, fun j hj => ⟨?_, rfl⟩, fun j m1 hj => ?_, fun b' hb => ?_, gc_same fun j v e rows hj => ?_, hos, htape, hout, by show _ ≤ w'.heap.size; omega⟩
    · by_cases e : b' = b
      · subst e
        rw [hO] at hs
        have hq : q < st := hs
        refine ⟨by show Stb (upd X.O b' _ b') q; rw [upd_eq]; show q < st'; omega, ?_⟩
        show w'.cell? _ = _
        rw [cell_some hnew, cell_some hh]; exact hsame q hq
      · refine ⟨by show Stb (upd X.O b _ b') q; rw [hOne b' e]; exact hs, World.cell?_of_block (w := X.w) (a := ⟨b', q, none⟩) (hne b' e)⟩
    · have e : j ≠ k := by intro e; subst e; rw [hk] at hj; exact hj
      show (upd X.bx k _ j).is
      rw [upd_ne _ _ _ _ e]; exact hj
    · by_cases e : j = k
      · subst e
        rw [hk] at hj; cases hj
        exact ⟨m, upd_eq _ _ _, by omega, fun hm => by omega⟩
      · refine ⟨m1, (upd_ne _ _ _ _ e).trans hj, Nat.le_refl _, fun _ b' st arr ty h1 h2 => ?_⟩
        have : b' ≠ b := by intro e2; subst e2; rw [hO] at h1; cases h1; exact e rfl
        exact ⟨(hOne b' this).trans h1, arr, (hne b' this).trans h2, rfl⟩
    · have : b' ≠ b := by intro e; subst e; rw [hO] at hb; cases hb
      exact ⟨(hOne b' this).trans hb, hne b' this⟩
    · have e : j ≠ k := by intro e; subst e; rw [hk] at hj; cases hj
      refine ⟨(upd_ne _ _ _ _ e).trans hj, rfl, fun hOj => ?_⟩
      have : X.bl j ≠ b := by intro e2; rw [e2, hO] at hOj; cases hOj
      exact ⟨(hOne _ this).trans hOj, hne _ this⟩
  have hgb := gbox_same h he fun j v e rows hj => by
    have hj' : upd X.bx k (.tail m) j = .gcells v e rows := hj
    have e : j ≠ k := by intro e; subst e; rw [upd_eq] at hj'; cases hj'
    rw [upd_ne _ _ _ _ e] at hj'
    refine ⟨hj', rfl, fun hOj => ?_⟩
    have : X.bl j ≠ b := by intro e2; rw [e2, hO] at hOj; cases hOj
    exact ⟨(hOne _ this).trans hOj, hne _ this⟩
  have hob := obj_same h he fun j o hj => by
    have hj' : upd X.bx k (.tail m) j = .obj o := hj
    have e : j ≠ k := by intro e; subst e; rw [upd_eq] at hj'; cases hj'
    rw [upd_ne _ _ _ _ e] at hj'
    refine ⟨hj', rfl, fun hOj => ?_⟩
    have : X.bl j ≠ b := by intro e2; rw [e2, hO] at hOj; cases hOj
    exact ⟨(hOne _ this).trans hOj, hne _ this⟩
  refine ⟨⟨fun j hj => (upd_ne _ _ _ _ (by omega)).trans (h.dead j hj), fun b' hb => ?_, fun j cs1 hj => ?_, hgb, hob⟩, he⟩
  · have hb' : w'.heap.size ≤ b' := hb
    have : b' ≠ b := by
      intro e; subst e
      have := h.free b' (by omega)
      rw [hO] at this; cases this
    exact (hOne b' this).trans (h.free b' (by omega))
  · have e : j ≠ k := by intro e; subst e; have hj' : upd X.bx j (.tail m) j = .cells cs1 := hj; rw [upd_eq] at hj'; cases hj'
    have hj' : upd X.bx k (.tail m) j = .cells cs1 := hj
    rw [upd_ne _ _ _ _ e] at hj'
    obtain ⟨h1, us1, ty1, h2, h3, h4⟩ := h.box j cs1 hj'
    have : X.bl j ≠ b := by intro e2; rw [e2] at h1; rw [hO] at h1; cases h1
    exact ⟨(hOne _ this).trans h1, us1, ty1, (hne _ this).trans h2, RowRep.mono he _ _ h3, h4⟩
/-! ### append -/
/-- What is appended: its rows, off a value. -/
def Gives (v : V) (e : Nat) (ys : List (List V)) (pre : List (Nat × Box)) : Prop := ∀ (P : Program) n X u, R n X → VRep X v u → (∀ p ∈ pre, X.bx p.1 = p.2) →
  (∀ w, (Builtin.lenOf u).run P w = .ok ys.length w) ∧ (∀ r ∈ ys, r.length = e) ∧ ∃ us, RowRep X ys.flatten us ∧ us.length = ys.length * e ∧ (∀ x ∈ us, oneV x = true) ∧ (∀ d j, j ≤ ys.length → (Builtin.firstCells e j u).run P { X.w with drawn := d } = .ok (us.take (j * e)).toArray { X.w with drawn := d })
theorem take_all {us : List Value} {m e : Nat} (h : us.length = m * e) : us.take (m * e) = us := List.take_of_length_le (by omega)
theorem gives_sl {v : V} {e : Nat} {ys : List (List V)} (h : IsSl v e ys) : Gives v e ys [] := by
  intro P n X u hR hv _
  obtain ⟨a, c, rfl, h1, h2⟩ := h.rep hv
  refine ⟨fun w => rfl, ?_, ?_⟩
  · rcases h2 with rfl | ⟨b, q, rfl, h3⟩
    · simp
    · exact h3.lens
  · rcases h2 with rfl | ⟨b, q, rfl, h3⟩
    · refine ⟨[], by simp [RowRep], by simp, by simp, fun d j hj => ?_⟩
      have hj0 : j = 0 := by simpa using hj
      subst hj0
      cases a with
      | none => simp [Builtin.firstCells]
      | some a => simp [Builtin.firstCells, loadCells, loadCellsFrom]
    · obtain ⟨us, g1, g2, g3, g4⟩ := h3.flat
      refine ⟨us, g1, g2, g4, fun d j hj => ?_⟩
      have := run_loadCells_list (P := P) { X.w with drawn := d } ⟨b, q, none⟩ (us.take (j * e)) (fun i v hi => by
        rw [addr_add]
        rw [List.getElem?_take] at hi
        split at hi
        · exact g3 i v hi
        · cases hi)
      have hl : (us.take (j * e)).length = j * e := by
        rw [List.length_take, g2]
        have := Nat.mul_le_mul_right e hj
        omega
      rw [hl] at this
      exact this
theorem growBy_le : ∀ (r c newLen : Nat), c ≤ 2 * newLen + 512 → Builtin.growBy newLen r c ≤ 2 * newLen + 512
  | 0, c, newLen, h => h
  | r + 1, c, newLen, h => by
    unfold Builtin.growBy
    split
    · exact h
    · exact growBy_le r _ newLen (by omega)
theorem nextslicecap_le (need cap : Nat) (h : cap < need) : Builtin.nextslicecap need cap ≤ 2 * need + 512 := by
  unfold Builtin.nextslicecap
  split
  · omega
  · split
    · omega
    · exact growBy_le 4 cap need (by omega)
/-- The type of a slice's elements, as append asks of it. -/
structure ElemT (P : Program) (el : TypeId) (e : Nat) : Prop where
  size : (P.info? el).map (·.size) = some e
  zero : ∃ z, (P.info? el).bind (·.zero) = some z ∧ z.cells.size = e
  bytes : ∃ i, P.info? el = some i ∧ i.bytes ≤ 4096
theorem zeroCells_size (z : Array Value) (n : Nat) : (Builtin.zeroCells z n).size = n * z.size := by simp [Builtin.zeroCells]
/-- Appending where there is no room. -/
theorem run_append_new {ty el ty2 : TypeId} {tys : Array TypeId} {e : Nat} {w : World} {a : Option Addr} {len cap n : Nat} {u : Value} {old new : List Value} (h0 : tys[0]? = some ty) (h1 : tys[1]? = some ty2) (hu : P.underlying ty = some (.slice el)) (hu2 : ∃ d, P.underlying ty2 = some d ∧ ∀ k, d ≠ .int k) (he : ElemT P el e)
    (hl : ∀ w, (Builtin.lenOf u).run P w = .ok n w) (hlt : cap < len + n) (hb : len + n ≤ 1073741824) (ty0 : TypeId)
    (ho : ∀ d, (Builtin.firstCells e len (.slice a len cap)).run P { w with drawn := d } = .ok old.toArray { w with drawn := d }) (hn : ∀ d, (Builtin.firstCells e n u).run P { w with drawn := d } = .ok new.toArray { w with drawn := d }) :
    ∃ d c rest, len + n ≤ c ∧ rest.length = (c - (len + n)) * e ∧ (Builtin.append_ tys ty0 #[.slice a len cap, u]).run P w = .ok (.slice (some ⟨w.heap.size, 0, none⟩) (len + n) c) (({ w with drawn := d } : World).alloc (.cells (old ++ new ++ rest).toArray el (0, 0))) := by
  obtain ⟨hs, ⟨z, hz, hzs⟩, i, hi, hib⟩ := he
  obtain ⟨d2, hu2, hnint⟩ := hu2
  have hti : ∀ w, (typeInfo el).run P w = .ok i w := fun w => by simp [typeInfo, hi]
  have hbnd : Builtin.nextslicecap (len + n) cap * i.bytes ≤ 2 ^ 48 := by
    have h2 := nextslicecap_le (len + n) cap hlt
    calc Builtin.nextslicecap (len + n) cap * i.bytes ≤ (2 * (len + n) + 512) * 4096 := Nat.mul_le_mul h2 hib
      _ ≤ 2 ^ 48 := by omega
  let q : Question := .appendCap (len + n) cap el
  let c := q.cut (w.tape w.drawn q)
  have hc : len + n ≤ c := by show len + n ≤ (len + n) + _ % _; omega
  refine ⟨w.drawn + 1, c, (Builtin.zeroCells z.cells (c - (len + n))).toList, hc, by simp [zeroCells_size, hzs], ?_⟩
  have hchoose : (choose q).run P w = .ok c { w with drawn := w.drawn + 1 } := by simp [choose, Sem.run, q, Question.forced, c]
  have hz0 : (match d2 with | .int _ => true | _ => false) = false := by cases d2 <;> first | rfl | exact absurd rfl (hnint _)
  have hroom : ∀ m w, (askRoom m).run P w = .ok () w := by intro m w; unfold askRoom; split <;> rfl
  have hnle : ¬ len + n ≤ cap := by omega
  have hi0 : ¬ (((len + n : Nat) : Int) > IntKind.i64.max ∧ (False ∨ i.bytes = 0)) := by rw [IntKind.max_i64]; omega
  unfold Builtin.append_
  simp only [h0, h1, List.getElem?_toArray, List.getElem?_cons_zero, List.getElem?_cons_succ, Sem.run_bind, run_under hu, run_under hu2, Result.andThen_ok, run_size hs, Sem.run_pure, hz0, Bool.false_eq_true, if_false, hl, hnle, hti, hi0, Bool.not_false, if_true]
  rw [if_neg (by omega)]
  simp only [Sem.run_bind, hti, Result.andThen_ok]
  rw [show (Question.appendCap (len + n) cap el) = q from rfl, hchoose]
  simp only [Result.andThen_ok, hroom, ho, hn, run_zero hz, newRow, newObj, Sem.run_bind]
  have e1 : (old ++ new ++ (Builtin.zeroCells z.cells (c - (len + n))).toList).toArray = old.toArray ++ new.toArray ++ Builtin.zeroCells z.cells (c - (len + n)) := by simp
  rw [e1]
  rfl
/-- Appending where there is room. -/
theorem run_append_room {ty el ty2 : TypeId} {tys : Array TypeId} {e : Nat} {w w' : World} {a : Option Addr} {len cap n : Nat} {u : Value} {new : List Value} (h0 : tys[0]? = some ty) (h1 : tys[1]? = some ty2) (hu : P.underlying ty = some (.slice el)) (hu2 : ∃ d, P.underlying ty2 = some d ∧ ∀ k, d ≠ .int k) (he : (P.info? el).map (·.size) = some e)
    (hl : ∀ w, (Builtin.lenOf u).run P w = .ok n w) (hle : len + n ≤ cap) (ty0 : TypeId) (hn : (Builtin.firstCells e n u).run P w = .ok new.toArray w)
    (hst : match a with | some a => (storeCells (a.add (len * e)) new).run P w = .ok () w' | none => w' = w) :
    (Builtin.append_ tys ty0 #[.slice a len cap, u]).run P w = .ok (.slice a (len + n) cap) w' := by
  obtain ⟨d2, hu2, hnint⟩ := hu2
  have hz0 : (match d2 with | .int _ => true | _ => false) = false := by cases d2 <;> first | rfl | exact absurd rfl (hnint _)
  unfold Builtin.append_
  simp only [h0, h1, List.getElem?_toArray, List.getElem?_cons_zero, List.getElem?_cons_succ, Sem.run_bind, run_under hu, run_under hu2, Result.andThen_ok, run_size he, Sem.run_pure, hz0, Bool.false_eq_true, if_false, hl, hle, Bool.not_false, if_true, hn]
  cases a with
  | none => simp only at hst; subst hst; rfl
  | some a => simp only at hst; simp only [hst, Sem.run_bind, Result.andThen_ok, Sem.run_pure]
theorem stb_new {X X' : Ctx} {k st b : Nat} {us rest : List Value} {ty : TypeId} (hO : X'.O b = .grow k st) (hh : X'.w.heap[b]? = some (.cells (us ++ rest).toArray ty (0, 0))) (hst : st = us.length) {e : Nat} {xs : List (List V)} (hr : RowRep X' xs.flatten us) (hl : ∀ r ∈ xs, r.length = e) (h1 : ∀ x ∈ us, oneV x = true) : RowsAt X' e xs b 0 := by
  refine rowsAt_of hr hl (fun j v hj => ?_) (fun j hj => by rw [hO]; show 0 + j < st; omega) h1
  rw [Nat.zero_add, cell_some hh, List.getElem?_append_left (List.getElem?_eq_some_iff.1 hj).1]
  exact hj
theorem flat_len {e : Nat} : ∀ {xs : List (List V)}, (∀ r ∈ xs, r.length = e) → xs.flatten.length = xs.length * e
  | [], h => by simp
  | r :: rs, h => by
    have := flat_len (e := e) (xs := rs) (fun r' hr' => h r' (List.mem_cons_of_mem _ hr'))
    have h2 := h r (List.mem_cons_self ..)
    rw [List.flatten_cons, List.length_append, this, h2, List.length_cons, Nat.add_mul]
    omega
/-- The reallocating way, told: what the new slice is. -/
theorem append_realloc {ty el ty2 : TypeId} {tys : Array TypeId} {e n k : Nat} {X : Ctx} {a : Option Addr} {cap : Nat} {u : Value} {xs ys : List (List V)} (hR : R n X) (hk : X.bx k = .dead ∨ ∃ m0, X.bx k = .tail m0 ∧ m0 < xs.length + ys.length) (hkn : k < n)
    (h0 : tys[0]? = some ty) (h1 : tys[1]? = some ty2) (hu : P.underlying ty = some (.slice el)) (hu2 : ∃ d, P.underlying ty2 = some d ∧ ∀ k, d ≠ .int k) (he : ElemT P el e)
    (hxs : xs = [] ∨ ∃ b q, a = some ⟨b, q, none⟩ ∧ RowsAt X e xs b q) (hl : ∀ w, (Builtin.lenOf u).run P w = .ok ys.length w) (hyl : ∀ r ∈ ys, r.length = e) (hlt : cap < xs.length + ys.length) (hb : xs.length + ys.length ≤ 1073741824) (ty0 : TypeId)
    {new : List Value} (hnr : RowRep X ys.flatten new) (hnl : new.length = ys.length * e) (hn1 : ∀ x ∈ new, oneV x = true) (hn : ∀ d, (Builtin.firstCells e ys.length u).run P { X.w with drawn := d } = .ok new.toArray { X.w with drawn := d }) :
    ∃ X' u', (Builtin.append_ tys ty0 #[.slice a xs.length cap, u]).run P X.w = .ok u' X'.w ∧ X'.bx = upd X.bx k (.tail (xs.length + ys.length)) ∧ R n X' ∧ Ext X X' ∧ VRep X' (.own e (xs ++ ys) k) u' := by
  have hold : ∃ old, RowRep X xs.flatten old ∧ old.length = xs.length * e ∧ (∀ x ∈ old, oneV x = true) ∧ (∀ r ∈ xs, r.length = e) ∧ ∀ d, (Builtin.firstCells e xs.length (.slice a xs.length cap)).run P { X.w with drawn := d } = .ok old.toArray { X.w with drawn := d } := by
    rcases hxs with rfl | ⟨b, q, rfl, h3⟩
    · refine ⟨[], by simp [RowRep], by simp, by simp, by simp, fun d => ?_⟩
      cases a with
      | none => rfl
      | some a => simp [Builtin.firstCells, loadCells, loadCellsFrom]
    · obtain ⟨us, g1, g2, g3, g4⟩ := h3.flat
      refine ⟨us, g1, g2, g4, h3.lens, fun d => ?_⟩
      have := run_loadCells_list (P := P) { X.w with drawn := d } ⟨b, q, none⟩ us (fun j v hj => by rw [addr_add]; exact g3 j v hj)
      rw [g2] at this
      exact this
  obtain ⟨old, o1, o2, o3, o4, o5⟩ := hold
  obtain ⟨d, c, rest, hc, hrl, hrun⟩ := run_append_new (P := P) (w := X.w) h0 h1 hu hu2 he hl hlt hb ty0 o5 hn
  obtain ⟨X', x1, x2, x3, x4, x5⟩ := new_grow (k := k) (m := xs.length + ys.length) (st := (xs.length + ys.length) * e) (cells := (old ++ new ++ rest).toArray) (ty := el) hR hk hkn d
  have hh : X'.w.heap[X.w.heap.size]? = some (.cells ((old ++ new) ++ rest).toArray el (0, 0)) := by
    rw [x2]
    show (X.w.heap.push _)[X.w.heap.size]? = _
    simp
  have hrr : RowRep X' (xs ++ ys).flatten (old ++ new) := by
    rw [List.flatten_append]
    exact RowRep.mono x5 _ _ (o1.append hnr)
  have h11 : ∀ x ∈ old ++ new, oneV x = true := fun x hx => (List.mem_append.1 hx).elim (o3 x) (hn1 x)
  have hll : ∀ r ∈ xs ++ ys, r.length = e := fun r hr => (List.mem_append.1 hr).elim (o4 r) (hyl r)
  have hrows := stb_new (X := X) x3 hh (by rw [List.length_append, o2, hnl, Nat.add_mul]) hrr hll h11
  refine ⟨X', _, by rw [hrun, ← x2], x1, x4, x5, ?_⟩
  simp only [VRep]
  refine ⟨some ⟨X.w.heap.size, 0, none⟩, c, by rw [List.length_append], by rw [List.length_append]; exact hc, .inr ⟨_, _, rfl, hrows⟩, xs.length + ys.length, by rw [x1, upd_eq], Nat.le_of_eq List.length_append, fun _ => .inr ?_⟩
  refine ⟨X.w.heap.size, 0, _, _, el, rfl, x3, by rw [List.length_append]; omega, hh, ?_⟩
  simp only [List.size_toArray, List.length_append, o2, hnl, hrl]
  rw [← Nat.add_mul, ← Nat.add_mul]
  rw [show xs.length + ys.length + (c - (xs.length + ys.length)) = c by omega]
  omega
/-- append to a slice that is one's own. -/
theorem step_append_own {ty el ty2 : TypeId} {tys : Array TypeId} {e k : Nat} {x y : Operand} {vy : V} {xs ys : List (List V)} (ho : o.op = .call { callee := .builtin .append, args := #[x, y], argTypes := tys })
    (h0 : tys[0]? = some ty) (h1 : tys[1]? = some ty2) (hu : P.underlying ty = some (.slice el)) (hu2 : ∃ d, P.underlying ty2 = some d ∧ ∀ k, d ≠ .int k) (he : ElemT P el e)
    (hx : ev t x = .own e xs k) (hy : ev t y = vy) (hvy : Gives vy e ys pre) (hb : xs.length + ys.length ≤ 1073741824) :
    StepOK P o t ((k, .tail xs.length) :: pre) [(k, .tail (xs ++ ys).length)] (.own e (xs ++ ys) k) := by
  rw [List.length_append]
  intro n X a next Q hR hop hpre hup hk
  have g1 := hop x (by simp [ho, Op.operands, Call.operands])
  have g2 := hop y (by simp [ho, Op.operands, Call.operands])
  rw [hx] at g1; rw [hy] at g2
  have hkd : X.bx k = .tail xs.length := hpre (k, .tail xs.length) (by simp)
  have hkn : k < n := hup (k, .tail (xs.length + ys.length)) (by simp)
  obtain ⟨l1, l2, new, l3, l4, l5, l6⟩ := hvy P n X _ hR g2 (fun p hp => hpre p (List.mem_cons_of_mem _ hp))
  have g1' := g1
  simp only [VRep] at g1
  obtain ⟨ad, cap, s1, s2, s3, n0, s4, s5, s6⟩ := g1
  rw [hkd] at s4
  cases s4
  have hex : execOp a.eval o = (do pure (.value (← Builtin.append_ tys o.type #[a.eval x, a.eval y]))) := by
    rw [exec_builtin ho]
    have e1 : (#[x, y].map a.eval : Array Value) = #[a.eval x, a.eval y] := by simp
    rw [e1]; rfl
  have key : ∃ X' u', (Builtin.append_ tys o.type #[a.eval x, a.eval y]).run P X.w = .ok u' X'.w ∧ X'.bx = upd X.bx k (.tail (xs.length + ys.length)) ∧ R n X' ∧ Ext X X' ∧ VRep X' (.own e (xs ++ ys) k) u' := by
    by_cases hys : ys.length = 0
    · have hy0 : ys = [] := List.length_eq_zero_iff.1 hys
      subst hy0
      have hnew : new = [] := by simp at l4; exact List.length_eq_zero_iff.1 (by simpa using l4)
      subst hnew
      rw [s1] at g1' ⊢
      refine ⟨X, _, run_append_room (w' := X.w) h0 h1 hu hu2 he.size l1 (by simpa using s2) o.type (by have := l6 X.w.drawn _ (Nat.le_refl _); rw [take_all l4] at this; exact this) ?_, ?_, hR, Ext.refl X, by simpa using g1'⟩
      · cases ad with
        | none => rfl
        | some ad => simp [storeCells]
      · funext j
        by_cases e1 : j = k
        · subst e1; rw [upd_eq, hkd]; rfl
        · rw [upd_ne _ _ _ _ e1]
    · rw [s1]
      by_cases hroom : xs.length + ys.length ≤ cap
      · rcases s6 rfl with h7 | ⟨b, q, st, arr, ty', h7, h8, h9, h10, h11⟩
        · omega
        · subst h7
          have he0 : ys.length * e = new.length := l4.symm
          have hcape : (xs.length + ys.length) * e ≤ cap * e := Nat.mul_le_mul hroom (Nat.le_refl _)
          rw [Nat.add_mul] at hcape
          obtain ⟨w', r1, r2, r3, r4, r5, r6, r7⟩ := run_storeCells (P := P) (b := b) new st 0 X.w arr.toList ty' (by simpa using h10) (by simp; omega) l5
          have hsame : ∀ j, j < st → (arr.toList.take (st + 0) ++ new ++ arr.toList.drop (st + 0 + new.length))[j]? = arr.toList[j]? := by
            intro j hj
            have hlt : j < arr.toList.length := by simp; omega
            rw [List.append_assoc, List.getElem?_append_left (by simp; omega), List.getElem?_take, if_pos (by omega)]
          obtain ⟨t1, t2⟩ := grow_in (m := xs.length + ys.length) (st' := st + new.length) hR hkd (by omega) h8 (by omega) (us := arr.toList) (by simpa using h10) r2 r3 r4 r5 r6 r7 hsame
          have hb1 : a.eval y = a.eval y := rfl
          refine ⟨_, _, run_append_room (w' := w') h0 h1 hu hu2 he.size l1 hroom o.type (by have := l6 X.w.drawn _ (Nat.le_refl _); rw [take_all l4] at this; exact this) ?_, rfl, t1, t2, ?_⟩
          · show (storeCells ((⟨b, q, none⟩ : Addr).add (xs.length * e)) new).run P X.w = _
            rw [addr_add, h9]; exact r1
          · have hrows : RowsAt { X with O := upd X.O b (.grow k (st + new.length)), bx := upd X.bx k (.tail (xs.length + ys.length)), w := w' } e (xs ++ ys) b q := by
              have hnew : RowsAt { X with O := upd X.O b (.grow k (st + new.length)), bx := upd X.bx k (.tail (xs.length + ys.length)), w := w' } e ys b st := by
                refine rowsAt_of (RowRep.mono t2 _ _ l3) l2 (fun j v hj => ?_) (fun j hj => ?_) l5
                · show w'.cell? _ = _
                  have hjl : j < new.length := (List.getElem?_eq_some_iff.1 hj).1
                  have hsl : st ≤ arr.toList.length := by simp; omega
                  rw [cell_some r7, List.append_assoc, List.getElem?_append_right (by rw [List.length_take]; omega), List.getElem?_append_left (by rw [List.length_take]; omega)]
                  have : st + j - (List.take (st + 0) arr.toList).length = j := by rw [List.length_take]; omega
                  rw [this]; exact hj
                · show Stb (upd X.O b _ b) _
                  rw [upd_eq]; show st + j < st + new.length; omega
              rcases s3 with rfl | ⟨b', q', h12, h13⟩
              · simp at h9; subst h9; simpa using hnew
              · cases h12
                refine RowsAt.append (RowsAt.mono t2 e xs b q h13) ?_
                rw [h9]; exact hnew
            simp only [VRep]
            refine ⟨some ⟨b, q, none⟩, cap, by rw [List.length_append], by rw [List.length_append]; exact hroom, .inr ⟨b, q, rfl, hrows⟩, xs.length + ys.length, upd_eq _ _ _, Nat.le_of_eq List.length_append, fun _ => .inr ?_⟩
            refine ⟨b, q, st + new.length, _, ty', rfl, upd_eq _ _ _, ?_, r7, ?_⟩
            · rw [List.length_append, Nat.add_mul]; omega
            · simp; omega
      · exact append_realloc hR (.inr ⟨_, hkd, by omega⟩) hkn h0 h1 hu hu2 he s3 l1 l2 (by omega) hb o.type l3 l4 l5 (fun d => by have := l6 d _ (Nat.le_refl _); rw [take_all l4] at this; exact this)
  obtain ⟨X', u', k1, k2, k3, k4, k5⟩ := key
  unfold Oper.wp
  rw [exec_run hex k1]
  exact hk X' u' k2 k3 k4 k5
end
end Go.Vm

