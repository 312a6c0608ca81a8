/- A logic of values over the model. Part C: what a change of memory leaves, results, a function from its body. -/
import Derived.Test.YthpkhecialkmmaaKeVmB
import Derived.Laws.Rows
import Derived.Laws.Sem
import Derived.RangeFuncRecord
set_option linter.unusedVariables false
set_option linter.unusedSimpArgs false
namespace Go.Vm

section
variable {X X' : Ctx}
theorem RowRep.length : ∀ {vs : List V} {us : List Value}, RowRep X vs us → vs.length = us.length
  | [], us, h => by simp only [RowRep] at h; subst h; rfl
  | v :: vs, us, h => by
    simp only [RowRep] at h
    obtain ⟨u, us', rfl, _, h3⟩ := h
    simp [RowRep.length h3]
theorem RowRep.get : ∀ {vs : List V} {us : List Value} (i : Nat) {v : V}, RowRep X vs us → vs[i]? = some v → ∃ u, us[i]? = some u ∧ VRep X v u
  | [], us, i, v, h, hi => by simp at hi
  | v :: vs, us, i, v', h, hi => by
    simp only [RowRep] at h
    obtain ⟨u, us', rfl, h2, h3⟩ := h
    cases i with
    | zero => simp at hi; subst hi; exact ⟨u, rfl, h2⟩
    | succ i => simp at hi; simpa using RowRep.get i h3 hi
theorem RowRep.append : ∀ {vs vs' : List V} {us us' : List Value}, RowRep X vs us → RowRep X vs' us' → RowRep X (vs ++ vs') (us ++ us')
  | [], vs', us, us', h, g => by simp only [RowRep] at h; subst h; simpa using g
  | v :: vs, vs', us, us', h, g => by
    simp only [RowRep] at h
    obtain ⟨u, us1, rfl, h2, h3⟩ := h
    simp only [List.cons_append, RowRep]
    exact ⟨u, us1 ++ us', rfl, h2, RowRep.append h3 g⟩
theorem RowRep.drop : ∀ {vs : List V} {us : List Value} (i : Nat), RowRep X vs us → RowRep X (vs.drop i) (us.drop i)
  | [], us, i, h => by simp only [RowRep] at h; subst h; simp [RowRep]
  | v :: vs, us, i, h => by
    cases i with
    | zero => simpa using h
    | succ i =>
      simp only [RowRep] at h
      obtain ⟨u, us1, rfl, h2, h3⟩ := h
      simpa using RowRep.drop i h3
theorem RowRep.take : ∀ {vs : List V} {us : List Value} (i : Nat), RowRep X vs us → RowRep X (vs.take i) (us.take i)
  | [], us, i, h => by simp only [RowRep] at h; subst h; simp [RowRep]
  | v :: vs, us, i, h => by
    cases i with
    | zero => simp [RowRep]
    | succ i =>
      simp only [RowRep] at h
      obtain ⟨u, us1, rfl, h2, h3⟩ := h
      simp only [List.take_succ_cons, RowRep]
      exact ⟨u, us1.take i, rfl, h2, RowRep.take i h3⟩
theorem RowRep.one {v : V} {u : Value} (h : VRep X v u) : RowRep X [v] [u] := by simp only [RowRep]; exact ⟨u, [], rfl, h, rfl⟩
end

/-! ### What a change of memory leaves -/
theorem gc_same {X X' : Ctx} (hb : ∀ k v e rows, X.bx k = .gcells v e rows → X'.bx k = .gcells v e rows ∧ X'.bl k = X.bl k ∧ (X.O (X.bl k) = .box k → X'.O (X.bl k) = .box k ∧ X'.w.heap[X.bl k]? = X.w.heap[X.bl k]?)) :
    ∀ k v e rows, X.bx k = .gcells v e rows → ∃ v' rows', X'.bx k = .gcells v' e rows' ∧ v ≤ v' ∧ (v' = v → X'.bl k = X.bl k ∧ (X.O (X.bl k) = .box k → X'.O (X.bl k) = .box k ∧ ∀ us ty, X.w.heap[X.bl k]? = some (.cells us ty (0, 0)) → ∃ us', X'.w.heap[X.bl k]? = some (.cells us' ty (0, 0)) ∧ us'.size = us.size)) := by
  intro k v e rows hk
  obtain ⟨h1, h2, h3⟩ := hb k v e rows hk
  exact ⟨v, rows, h1, Nat.le_refl _, fun _ => ⟨h2, fun hO => ⟨(h3 hO).1, fun us ty hu => ⟨us, by rw [(h3 hO).2]; exact hu, rfl⟩⟩⟩⟩
theorem gbox_same {n : Nat} {X X' : Ctx} (h : R n X) (he : Ext X X') (hb : ∀ k v e rows, X'.bx k = .gcells v e rows → X.bx k = .gcells v e rows ∧ X'.bl k = X.bl k ∧ (X.O (X.bl k) = .box k → X'.O (X.bl k) = .box k ∧ X'.w.heap[X.bl k]? = X.w.heap[X.bl k]?)) :
    ∀ k v e rows, X'.bx k = .gcells v e rows → (∀ r ∈ rows, r.length = e) ∧ (rows = [] ∨ X'.O (X'.bl k) = .box k ∧ ∃ us rest ty, X'.w.heap[X'.bl k]? = some (.cells (us ++ rest).toArray ty (0, 0)) ∧ RowRep X' rows.flatten us ∧ us.length = rows.length * e ∧ ∀ x ∈ us, oneV x = true) := by
  intro k v e rows hk
  obtain ⟨h1, h2, h3⟩ := hb k v e rows hk
  obtain ⟨g1, g2⟩ := h.gbox k v e rows h1
  refine ⟨g1, g2.imp id fun ⟨j1, us, rest, ty, j2, j3, j4, j5⟩ => ?_⟩
  rw [h2]
  exact ⟨(h3 j1).1, us, rest, ty, by rw [(h3 j1).2]; exact j2, RowRep.mono he _ _ j3, j4, j5⟩
theorem obj_same {n : Nat} {X X' : Ctx} (h : R n X) (_he : Ext X X') (hb : ∀ k o, X'.bx k = .obj o → X.bx k = .obj o ∧ X'.bl k = X.bl k ∧ (X.O (X.bl k) = .box k → X'.O (X.bl k) = .box k ∧ X'.w.heap[X.bl k]? = X.w.heap[X.bl k]?)) :
    ∀ k o, X'.bx k = .obj o → X'.O (X'.bl k) = .box k ∧ X'.w.heap[X'.bl k]? = some o ∧ o.isCells = false := by
  intro k o hk
  obtain ⟨h1, h2, h3⟩ := hb k o hk
  obtain ⟨g1, g2, g3⟩ := h.obj k o h1
  rw [h2]
  exact ⟨(h3 g1).1, (h3 g1).2.trans g2, g3⟩
/-- A box is written. -/
theorem set_box {n k : Nat} {X : Ctx} {cs cs' : List V} {us' : List Value} {w' : World} (h : R n X) (hk : X.bx k = .cells cs)
    (hos : w'.os = X.w.os) (htape : w'.tape = X.w.tape) (hout : w'.output = X.w.output) (hsz : w'.heap.size = X.w.heap.size)
    (hne : ∀ b, b ≠ X.bl k → w'.heap[b]? = X.w.heap[b]?) (hnew : ∃ ty, w'.heap[X.bl k]? = some (.cells us'.toArray ty (0, 0)))
    (hr : RowRep X cs' us') (h1 : ∀ x ∈ us', oneV x = true) : R n { X with bx := upd X.bx k (.cells cs'), w := w' } ∧ Ext X { X with bx := upd X.bx k (.cells cs'), w := w' } := by
  have hO := (h.box k cs hk).1
  have he : Ext X { X with bx := upd X.bx k (.cells cs'), w := w' } := by
    refine ⟨fun b o hs => ⟨hs, ?_⟩, fun j hj => ⟨?_, rfl⟩, fun j m hj => ⟨m, ?_, Nat.le_refl _, fun _ b st arr ty h1 h2 => ⟨h1, arr, ?_, rfl⟩⟩, fun b hb => ⟨hb, ?_⟩, gc_same fun j v e rows hj => ⟨?_, rfl, fun hOj => ⟨hOj, ?_⟩⟩, hos, htape, hout, by show _ ≤ w'.heap.size; omega⟩
    · have : b ≠ X.bl k := by intro e; subst e; rw [hO] at hs; exact hs
      exact World.cell?_of_block (w := X.w) (a := ⟨b, o, none⟩) (hne b this)
    · show (upd X.bx k (.cells cs') j).is
      by_cases e : j = k
      · subst e; rw [upd_eq]; trivial
      · rw [upd_ne _ _ _ _ e]; exact hj
    · show upd X.bx k (.cells cs') j = _
      have e : j ≠ k := by intro e; subst e; rw [hk] at hj; cases hj
      rw [upd_ne _ _ _ _ e]; exact hj
    · have : b ≠ X.bl k := by intro e; subst e; rw [hO] at h1; cases h1
      exact (hne b this).trans h2
    · have : b ≠ X.bl k := by intro e; subst e; rw [hO] at hb; cases hb
      exact hne b this
    · show upd X.bx k (.cells cs') j = _
      have e : j ≠ k := by intro e; subst e; rw [hk] at hj; cases hj
      rw [upd_ne _ _ _ _ e]; exact hj
    · have e : j ≠ k := by intro e; subst e; rw [hk] at hj; cases hj
      have : X.bl j ≠ X.bl k := by intro e2; rw [e2, hO] at hOj; cases hOj; exact e rfl
      exact hne _ this
  refine ⟨⟨fun j hj => ?_, fun b hb => h.free b (by simpa [hsz] using hb), fun j cs1 hj => ?_, gbox_same h he fun j v e rows hj => ?_, obj_same h he fun j o hj => ?_⟩, he⟩
  · show upd X.bx k (.cells cs') j = _
    have e : j ≠ k := by intro e; subst e; rw [h.dead j hj] at hk; cases hk
    rw [upd_ne _ _ _ _ e]; exact h.dead j hj
  · by_cases e : j = k
    · subst e
      have hj' : upd X.bx j (.cells cs') j = .cells cs1 := hj
      rw [upd_eq] at hj'
      cases hj'
      obtain ⟨ty, hn⟩ := hnew
      exact ⟨hO, us', ty, hn, RowRep.mono he _ _ hr, h1⟩
    · have hj' : upd X.bx k (.cells cs') j = .cells cs1 := hj
      rw [upd_ne _ _ _ _ e] at hj'
      obtain ⟨h1, us, ty, h2, h3, h4⟩ := h.box j cs1 hj'
      have : X.bl j ≠ X.bl k := by intro e2; rw [e2] at h1; rw [h1] at hO; cases hO; exact e rfl
      exact ⟨h1, us, ty, (hne _ this).trans h2, RowRep.mono he _ _ h3, h4⟩
  · have hj' : upd X.bx k (.cells cs') j = .gcells v e rows := hj
    have e : j ≠ k := by intro e; subst e; rw [upd_eq] at hj'; cases hj'
    rw [upd_ne _ _ _ _ e] at hj'
    refine ⟨hj', rfl, fun hOj => ⟨hOj, hne _ ?_⟩⟩
    intro e2; rw [e2, hO] at hOj; cases hOj; exact e rfl
  · have hj' : upd X.bx k (.cells cs') j = .obj o := hj
    have e : j ≠ k := by intro e; subst e; rw [upd_eq] at hj'; cases hj'
    rw [upd_ne _ _ _ _ e] at hj'
    refine ⟨hj', rfl, fun hOj => ⟨hOj, hne _ ?_⟩⟩
    intro e2; rw [e2, hO] at hOj; cases hOj; exact e rfl
/-- A new box. -/
theorem new_box {n k : Nat} {X : Ctx} {cs : List V} {us : List Value} {ty : TypeId} (h : R n X) (hk : X.bx k = .dead) (hn : k < n) (hr : RowRep X cs us) (h1 : ∀ x ∈ us, oneV x = true) :
    ∃ X', X'.bx = upd X.bx k (.cells cs) ∧ X'.w = X.w.alloc (.cells us.toArray ty (0, 0)) ∧ X'.bl k = X.w.heap.size ∧ R n X' ∧ Ext X X' := by
  let X' : Ctx := { O := upd X.O X.w.heap.size (.box k), bl := upd X.bl k X.w.heap.size, bx := upd X.bx k (.cells cs), w := X.w.alloc (.cells us.toArray ty (0, 0)) }
  have hfree := h.free X.w.heap.size (Nat.le_refl _)
  have hne : ∀ b, b ≠ X.w.heap.size → X'.w.heap[b]? = X.w.heap[b]? := by
    intro b hb
    show (X.w.heap.push _)[b]? = _
    rw [Array.getElem?_push, if_neg hb]
  have hOne : ∀ b, b ≠ X.w.heap.size → X'.O b = X.O b := fun b hb => upd_ne _ _ _ _ hb
  have he : Ext X X' := by
    refine ⟨fun b o hs => ?_, fun j hj => ?_, fun j m hj => ⟨m, ?_, Nat.le_refl _, fun _ b st arr ty h1 h2 => ⟨?_, arr, ?_, rfl⟩⟩, fun b hb => ?_, gc_same fun j v e rows hj => ?_, rfl, rfl, rfl, by show _ ≤ (X.w.heap.push _).size; simp⟩
    · have : b ≠ X.w.heap.size := by intro e; subst e; rw [hfree] at hs; exact hs
      rw [hOne b this]
      exact ⟨hs, World.cell?_of_block (w := X.w) (a := ⟨b, o, none⟩) (hne b this)⟩
    · have e : j ≠ k := by intro e; subst e; rw [hk] at hj; exact hj
      exact ⟨by show (upd X.bx k (.cells cs) j).is; rw [upd_ne _ _ _ _ e]; exact hj, upd_ne _ _ _ _ e⟩
    · have e : j ≠ k := by intro e; subst e; rw [hk] at hj; cases hj
      exact (upd_ne _ _ _ _ e).trans hj
    · have : b ≠ X.w.heap.size := by intro e; subst e; rw [hfree] at h1; cases h1
      rw [hOne b this]; exact h1
    · have : b ≠ X.w.heap.size := by intro e; subst e; rw [hfree] at h1; cases h1
      exact (hne b this).trans h2
    · have : b ≠ X.w.heap.size := by intro e; subst e; rw [hfree] at hb; cases hb
      rw [hOne b this]
      exact ⟨hb, hne b this⟩
    · have e : j ≠ k := by intro e; subst e; rw [hk] at hj; cases hj
      refine ⟨(upd_ne _ _ _ _ e).trans hj, upd_ne _ _ _ _ e, fun hOj => ?_⟩
      have : X.bl j ≠ X.w.heap.size := by intro e; rw [e, hfree] at hOj; cases hOj
      exact ⟨(hOne _ this).trans hOj, hne _ this⟩
  refine ⟨X', rfl, rfl, upd_eq _ _ _, ⟨fun j hj => ?_, fun b hb => ?_, fun j cs1 hj => ?_, gbox_same h he fun j v e rows hj => ?_, obj_same h he fun j o hj => ?_⟩, he⟩
  · have e : j ≠ k := by omega
    exact (upd_ne _ _ _ _ e).trans (h.dead j hj)
  · have hb' : (X.w.heap.push (Obj.cells us.toArray ty (0, 0))).size ≤ b := hb
    rw [Array.size_push] at hb'
    rw [hOne b (by omega)]
    exact h.free b (by omega)
  · by_cases e : j = k
    · subst e
      have hj' : upd X.bx j (.cells cs) j = .cells cs1 := hj
      rw [upd_eq] at hj'
      cases hj'
      have hbl : X'.bl j = X.w.heap.size := upd_eq _ _ _
      rw [hbl]
      refine ⟨upd_eq _ _ _, us, ty, ?_, RowRep.mono he _ _ hr, h1⟩
      show (X.w.heap.push _)[X.w.heap.size]? = _
      simp
    · have hj' : upd X.bx k (.cells cs) j = .cells cs1 := hj
      rw [upd_ne _ _ _ _ e] at hj'
      obtain ⟨h1, us1, ty1, h2, h3, h4⟩ := h.box j cs1 hj'
      have hbl : X'.bl j = X.bl j := upd_ne _ _ _ _ e
      have : X.bl j ≠ X.w.heap.size := by intro e2; rw [e2] at h1; rw [hfree] at h1; cases h1
      rw [hbl, hOne _ this]
      exact ⟨h1, us1, ty1, (hne _ this).trans h2, RowRep.mono he _ _ h3, h4⟩
  · have hj' : upd X.bx k (.cells cs) j = .gcells v e rows := hj
    have e : j ≠ k := by intro e; subst e; rw [upd_eq] at hj'; cases hj'
    rw [upd_ne _ _ _ _ e] at hj'
    refine ⟨hj', upd_ne _ _ _ _ e, fun hOj => ?_⟩
    have : X.bl j ≠ X.w.heap.size := by intro e2; rw [e2, hfree] at hOj; cases hOj
    exact ⟨(hOne _ this).trans hOj, hne _ this⟩
  · have hj' : upd X.bx k (.cells cs) j = .obj o := hj
    have e : j ≠ k := by intro e; subst e; rw [upd_eq] at hj'; cases hj'
    rw [upd_ne _ _ _ _ e] at hj'
    refine ⟨hj', upd_ne _ _ _ _ e, fun hOj => ?_⟩
    have : X.bl j ≠ X.w.heap.size := by intro e2; rw [e2, hfree] at hOj; cases hOj
    exact ⟨(hOne _ this).trans hOj, hne _ this⟩
/-- A new block that nobody writes any more; or one whose tail is a slice's to grow in (t). -/
theorem new_frz {n : Nat} {X : Ctx} {cells : Array Value} {ty : TypeId} (h : R n X) :
    ∃ X', X'.bx = X.bx ∧ X'.w = X.w.alloc (.cells cells ty (0, 0)) ∧ X'.O X.w.heap.size = .frz ∧ R n X' ∧ Ext X X' := by
  let X' : Ctx := { X with O := upd X.O X.w.heap.size .frz, w := X.w.alloc (.cells cells ty (0, 0)) }
  have hfree := h.free X.w.heap.size (Nat.le_refl _)
  have hne : ∀ b, b ≠ X.w.heap.size → X'.w.heap[b]? = X.w.heap[b]? := by
    intro b hb
    show (X.w.heap.push _)[b]? = _
    rw [Array.getElem?_push, if_neg hb]
  have hOne : ∀ b, b ≠ X.w.heap.size → X'.O b = X.O b := fun b hb => upd_ne _ _ _ _ hb
  have he : Ext X X' := by
    refine ⟨fun b o hs => ?_, fun j hj => ⟨hj, rfl⟩, fun j m hj => ⟨m, hj, Nat.le_refl _, fun _ b st arr ty h1 h2 => ⟨?_, arr, ?_, rfl⟩⟩, fun b hb => ?_, gc_same fun j v e rows hj => ⟨hj, rfl, fun hOj => ?_⟩, rfl, rfl, rfl, by show _ ≤ (X.w.heap.push _).size; simp⟩
    · have : b ≠ X.w.heap.size := by intro e; subst e; rw [hfree] at hs; exact hs
      rw [hOne b this]
      exact ⟨hs, World.cell?_of_block (w := X.w) (a := ⟨b, o, none⟩) (hne b this)⟩
    · have : b ≠ X.w.heap.size := by intro e; subst e; rw [hfree] at h1; cases h1
      rw [hOne b this]; exact h1
    · have : b ≠ X.w.heap.size := by intro e; subst e; rw [hfree] at h1; cases h1
      exact (hne b this).trans h2
    · have : b ≠ X.w.heap.size := by intro e; subst e; rw [hfree] at hb; cases hb
      rw [hOne b this]
      exact ⟨hb, hne b this⟩
    · have : X.bl j ≠ X.w.heap.size := by intro e; rw [e, hfree] at hOj; cases hOj
      exact ⟨(hOne _ this).trans hOj, hne _ this⟩
  refine ⟨X', rfl, rfl, upd_eq _ _ _, ⟨fun j hj => h.dead j hj, fun b hb => ?_, fun j cs1 hj => ?_, gbox_same h he fun j v e rows hj => ⟨hj, rfl, fun hOj => ?_⟩, obj_same h he fun j o hj => ⟨hj, rfl, fun hOj => ?_⟩⟩, he⟩
  · have hb' : (X.w.heap.push (Obj.cells cells ty (0, 0))).size ≤ b := hb
    rw [Array.size_push] at hb'
    rw [hOne b (by omega)]
    exact h.free b (by omega)
  · obtain ⟨h1, us1, ty1, h2, h3, h4⟩ := h.box j cs1 hj
    have : X.bl j ≠ X.w.heap.size := by intro e2; rw [e2] at h1; rw [hfree] at h1; cases h1
    show X'.O (X.bl j) = _ ∧ _
    rw [hOne _ this]
    exact ⟨h1, us1, ty1, (hne _ this).trans h2, RowRep.mono he _ _ h3, h4⟩
  · have : X.bl j ≠ X.w.heap.size := by intro e; rw [e, hfree] at hOj; cases hOj
    exact ⟨(hOne _ this).trans hOj, hne _ this⟩
  · have : X.bl j ≠ X.w.heap.size := by intro e; rw [e, hfree] at hOj; cases hOj
    exact ⟨(hOne _ this).trans hOj, hne _ this⟩
/-- A draw. -/
theorem drew_st {n : Nat} {X : Ctx} (h : R n X) (d : Nat) : R n { X with w := { X.w with drawn := d } } ∧ Ext X { X with w := { X.w with drawn := d } } := by
  have he : Ext X { X with w := { X.w with drawn := d } } := ⟨fun b o hs => ⟨hs, rfl⟩, fun j hj => ⟨hj, rfl⟩, fun j m hj => ⟨m, hj, Nat.le_refl _, fun _ b st arr ty h1 h2 => ⟨h1, arr, h2, rfl⟩⟩, fun b hb => ⟨hb, rfl⟩, gc_same fun j v e rows hj => ⟨hj, rfl, fun hOj => ⟨hOj, rfl⟩⟩, rfl, rfl, rfl, Nat.le_refl _⟩
  refine ⟨⟨h.dead, h.free, fun j cs hj => ?_, gbox_same h he fun j v e rows hj => ⟨hj, rfl, fun hOj => ⟨hOj, rfl⟩⟩, obj_same h he fun j o hj => ⟨hj, rfl, fun hOj => ⟨hOj, rfl⟩⟩⟩, he⟩
  obtain ⟨h1, us, ty, h2, h3, h4⟩ := h.box j cs hj
  exact ⟨h1, us, ty, h2, RowRep.mono he _ _ h3, h4⟩

/-! ### Results; a function from its body -/
def aggD : TypeDesc → Bool
  | .struct _ | .array _ _ => true
  | _ => false
/-- A type of several cells (a struct, an array), of so many. -/
def AggT (P : Program) (t : TypeId) (m : Nat) : Prop := (∃ d, P.underlying t = some d ∧ aggD d = true) ∧ (P.info? t).map (·.size) = some m
/-- A type of one cell. -/
def OneT (P : Program) (t : TypeId) : Prop := (∃ d, P.underlying t = some d ∧ aggD d = false) ∧ (P.info? t).map (·.size) = some 1
def ResV (P : Program) (s : S) : List ResultVar → List V → Prop
  | [], vs => vs = []
  | .tmp t :: rs, vs => ∃ vs', vs = s.t t :: vs' ∧ ResV P s rs vs'
  | .cell t ty :: rs, vs => ∃ k cs vs' v, vs = v :: vs' ∧ s.t t = .ref k 0 ∧ s.bx k = .cells cs ∧ (AggT P ty cs.length ∧ v = .agg cs ∨ OneT P ty ∧ cs[0]? = some v) ∧ ResV P s rs vs'
def retV : List V → V
  | [v] => v
  | vs => .tup vs
theorem run_results {P : Program} {B : Bas} {N : Nat} {s : S} {X : Ctx} {a : Act} (hs : St B N s X a) : ∀ {rs : List ResultVar} {vs : List V}, ResV P s rs vs →
    ∃ us, (rs.mapM (m := Sem) fun | .tmp t => pure (a.tmps.getD t undef) | .cell q t => do loadVar t (← asAddr (a.tmps.getD q undef))).run P X.w = .ok us X.w ∧ RowRep X vs us
  | [], vs, h => by simp only [ResV] at h; subst h; exact ⟨[], by simp, by simp [RowRep]⟩
  | .tmp t :: rs, vs, h => by
    simp only [ResV] at h
    obtain ⟨vs', rfl, h⟩ := h
    obtain ⟨us, h1, h2⟩ := run_results hs h
    refine ⟨a.tmps.getD t undef :: us, ?_, ?_⟩
    · rw [List.mapM_cons]
      simp only [Sem.run_bind, Sem.run_pure, Result.andThen_ok, h1]
    · simp only [RowRep]; exact ⟨_, us, rfl, hs.t t, h2⟩
  | .cell t ty :: rs, vs, h => by
    simp only [ResV] at h
    obtain ⟨k, cs, vs', v, rfl, hk, hc, hcase, h⟩ := h
    obtain ⟨us, h1, h2⟩ := run_results hs h
    have hv := hs.t t
    rw [hk] at hv
    simp only [VRep] at hv
    have hX : X.bx k = .cells cs := by rw [hs.bx]; exact hc
    obtain ⟨hO, us0, ty0, hh, hr, ho1⟩ := hs.rr.box k cs hX
    have hl := hr.length
    have e1 : asAddr (.pointer (some ⟨X.bl k, 0, none⟩)) = (pure ⟨X.bl k, 0, none⟩ : Sem Addr) := rfl
    rcases hcase with ⟨⟨⟨d, hd, hd'⟩, hsz⟩, rfl⟩ | ⟨⟨⟨d, hd, hd'⟩, _⟩, hv0⟩
    rotate_left
    · obtain ⟨u0, g1, g2⟩ := RowRep.get 0 hr hv0
      refine ⟨u0 :: us, ?_, ?_⟩
      · rw [List.mapM_cons]
        have hcell : X.w.cell? ⟨X.bl k, 0, none⟩ = some u0 := by
          rw [cell_of_row X.w (X.bl k) 0 _ _ _ hh]; simpa using g1
        have hag : (isAgg ty).run P X.w = .ok (aggD d) X.w := by
          unfold isAgg
          rw [Sem.run_bind, run_underlying hd X.w]
          cases d <;> rfl
        have hld : (loadVar ty ⟨X.bl k, 0, none⟩).run P X.w = .ok u0 X.w := by simp [loadVar, Sem.run_bind, hag, hd', load, Sem.run, hcell]
        simp only [Sem.run_bind, hv.2, e1, Sem.run_pure, Result.andThen_ok, hld, h1]
      · simp only [RowRep]
        exact ⟨_, us, rfl, g2, h2⟩
    refine ⟨.agg us0.toArray :: us, ?_, ?_⟩
    · rw [List.mapM_cons]
      have := run_loadVar_row (P := P) X.w (X.bl k) ty0 ty us0.toArray (0, 0) d hh hd (by cases d <;> simp_all [aggD]) (by simpa [hl] using hsz)
      simp only [Sem.run_bind, hv.2, e1, Sem.run_pure, Result.andThen_ok, this, h1]
    · simp only [RowRep]
      exact ⟨_, us, rfl, by simp only [VRep]; exact ⟨us0, rfl, hr, ho1⟩, h2⟩
theorem results_run {P : Program} {B : Bas} {N : Nat} {s : S} {X : Ctx} {a : Act} {fn : Func} {vs : List V} (hs : St B N s X a) (h : ResV P s fn.results.toList vs) :
    ∃ u, (results fn a.tmps).run P X.w = .ok u X.w ∧ VRep X (retV vs) u := by
  obtain ⟨us, h1, h2⟩ := run_results hs h
  have hl := h2.length
  have hr : (results fn a.tmps).run P X.w = .ok (if h : us.toArray.size = 1 then us.toArray[0] else .tuple us.toArray) X.w := by
    unfold results
    rw [Array.mapM_eq_mapM_toList]
    simp only [Sem.run_bind, map_eq_pure_bind, Sem.run_pure, Result.andThen_ok]
    erw [h1]
    rfl
  rw [hr]
  refine ⟨_, rfl, ?_⟩
  match vs, us, hl, h2 with
  | [v], [u], _, h2 =>
    simp only [RowRep] at h2
    obtain ⟨u', us', h3, h4, rfl⟩ := h2
    cases h3
    simpa [retV] using h4
  | [], [], _, _ => simp [retV, VRep, RowRep]
  | v1 :: v2 :: vs, u1 :: u2 :: us, _, h2 =>
    simp only [retV, VRep]
    exact ⟨u1 :: u2 :: us, by simp, h2⟩
theorem VLess.refl : ∀ xs : List (List V), VLess xs xs
  | [] => .nil
  | r :: rs => .cons (by induction r with | nil => exact .nil | cons v vs ih => exact .cons (VLe.refl _) ih) (VLess.refl rs)
theorem bdL_append {n : Nat} : ∀ {a b : List V}, bdL n (a ++ b) ↔ bdL n a ∧ bdL n b
  | [], b => by simp [bdL]
  | v :: a, b => by simp only [List.cons_append, bdL, bdL_append (a := a), and_assoc]
theorem bdR_flat {n : Nat} : ∀ {xs : List (List V)}, bdL n xs.flatten → bdR n xs
  | [], _ => by simp [bdR]
  | r :: rs, h => by
    rw [List.flatten_cons, bdL_append] at h
    simp only [bdR]
    exact ⟨h.1, bdR_flat h.2⟩
theorem bdL_flat {n : Nat} : ∀ {xs : List (List V)}, bdR n xs → bdL n xs.flatten
  | [], _ => by simp [bdL]
  | r :: rs, h => by
    simp only [bdR] at h
    rw [List.flatten_cons, bdL_append]
    exact ⟨h.1, bdL_flat h.2⟩
/-- What a function leaves behind. -/
def Fin (P : Program) (n : Nat) (bx : Nat → Box) (up : List (Nat × Box)) (r : V) (rs : List ResultVar) (s : S) : Prop :=
  (∃ vs, ResV P s rs vs ∧ VLe (retV vs) r ∧ r.bd n) ∧ (∀ k, k < n → BoxLe (s.bx k) (upds bx up k)) ∧ (∀ p ∈ up, ∀ cs, p.2 = .cells cs → bdL n cs) ∧ ∀ p ∈ up, ∀ v e rows, p.2 = .gcells v e rows → bdR n rows
theorem upds_mem {α : Type} : ∀ (l : List (Nat × α)) (f : Nat → α) (i : Nat), upds f l i = f i ∨ ∃ p ∈ l, p.1 = i ∧ upds f l i = p.2
  | [], f, i => .inl rfl
  | (k, v) :: l, f, i => by
    rcases upds_mem l (upd f k v) i with h | ⟨p, h1, h2, h3⟩
    · by_cases e : i = k
      · subst e; exact .inr ⟨(i, v), List.mem_cons_self .., rfl, by rw [upds, h, upd_eq]⟩
      · exact .inl (by rw [upds, h, upd_ne _ _ _ _ e])
    · exact .inr ⟨p, List.mem_cons_of_mem _ h1, h2, h3⟩
theorem getD_rep {X : Ctx} : ∀ (vs : List V) (us : List Value) (m i : Nat), RowRep X vs us → VRep X (vs.getD i .junk) ((us ++ List.replicate m undef).getD i undef) := by
  intro vs us m i h
  by_cases hi : i < vs.length
  · obtain ⟨u, h1, h2⟩ := RowRep.get (v := vs[i]) i h (List.getElem?_eq_getElem hi)
    have e1 : vs.getD i .junk = vs[i] := by simp [List.getD, List.getElem?_eq_getElem hi]
    have e2 : (us ++ List.replicate m undef).getD i undef = u := by
      rw [List.getD, List.getElem?_append_left (by rw [← h.length]; exact hi), h1]; rfl
    rw [e1, e2]; exact h2
  · have e1 : vs.getD i .junk = .junk := by simp [List.getD, List.getElem?_eq_none (Nat.le_of_not_lt hi)]
    rw [e1]; simp [VRep]
/-! ### A block without cells is turned -/
section
variable {X : Ctx} {b : Nat} {o : Obj}
theorem cell_putObj (hb : ∀ q, X.w.heap[b]? = some q → q.isCells = false) {d c : Nat} {u : Value} (h : X.w.cell? ⟨d, c, none⟩ = some u) : (X.w.putObj b o).cell? ⟨d, c, none⟩ = some u := by
  have hne : d ≠ b := by
    intro e; subst e
    unfold World.cell? at h
    split at h
    · rename_i c' e' f' hq; have := hb _ hq; cases this
    · cases h
  exact (World.cell?_of_block (w := X.w) (a := ⟨d, c, none⟩) (World.putObj_heap_other hne)).trans h
theorem heap_putObj (hb : ∀ q, X.w.heap[b]? = some q → q.isCells = false) {d : Nat} {arr : Array Value} {ty : TypeId} {f : Nat × Nat} (h : X.w.heap[d]? = some (.cells arr ty f)) : (X.w.putObj b o).heap[d]? = some (.cells arr ty f) := by
  have hne : d ≠ b := by intro e; subst e; have := hb _ h; cases this
  exact (World.putObj_heap_other hne).trans h
mutual
theorem VRep.objp (hb : ∀ q, X.w.heap[b]? = some q → q.isCells = false) : ∀ (v : V) (u : Value), VRep X v u → VRep { X with w := X.w.putObj b o } v u
  | .junk, _, _ => by simp [VRep]
  | .sc v, u, hv => by simpa [VRep] using hv
  | .ref k o, u, hv => by simpa only [VRep] using hv
  | .ro row, u, hv => by
    simp only [VRep] at hv ⊢
    obtain ⟨b, o, h1, h2⟩ := hv
    exact ⟨b, o, h1, CellsAt.objp hb row b o h2⟩
  | .sl e xs, u, hv => by
    simp only [VRep] at hv ⊢
    obtain ⟨a, c, h1, h2, h3⟩ := hv
    exact ⟨a, c, h1, h2, h3.imp id fun ⟨b, o, h4, h5⟩ => ⟨b, o, h4, RowsAt.objp hb e xs b o h5⟩⟩
  | .fl e xs, u, hv => by
    simp only [VRep] at hv ⊢
    obtain ⟨a, h1, h3⟩ := hv
    exact ⟨a, h1, h3.imp id fun ⟨b, o, h4, h5⟩ => ⟨b, o, h4, RowsAt.objp hb e xs b o h5⟩⟩
  | .own e xs k, u, hv => by
    simp only [VRep] at hv ⊢
    obtain ⟨a, c, h1, h2, h3, n, h6, h7, h8⟩ := hv
    refine ⟨a, c, h1, h2, h3.imp id fun ⟨b, o, h4, h5⟩ => ⟨b, o, h4, RowsAt.objp hb e xs b o h5⟩, n, h6, h7, fun hn => ?_⟩
    refine (h8 hn).imp id fun ⟨b, o, st, arr, ty, k1, k2, k3, k4, k5⟩ => ?_
    exact ⟨b, o, st, arr, ty, k1, k2, k3, heap_putObj hb k4, k5⟩
  | .msl k o len cap e, u, hv => by simpa only [VRep] using hv
  | .fn f cap, u, hv => by
    simp only [VRep] at hv ⊢
    obtain ⟨us, h1, h2⟩ := hv
    exact ⟨us, h1, RowRep.objp hb cap us h2⟩
  | .gsl k ver q len e, u, hv => by
    simp only [VRep] at hv ⊢
    obtain ⟨a, c, v', e0, rows, h1, h0, h2, h3, h4⟩ := hv
    refine ⟨a, c, v', e0, rows, h1, h0, h2, h3, fun hv => ?_⟩
    exact (h4 hv).imp id fun ⟨k1, k2, us, ty, k3, k4⟩ => ⟨k1, k2, us, ty, heap_putObj hb k3, k4⟩
  | .gref k ver o, u, hv => by simpa only [VRep] using hv
  | .agg cs, u, hv => by
    simp only [VRep] at hv ⊢
    obtain ⟨us, h1, h2, h3⟩ := hv
    exact ⟨us, h1, RowRep.objp hb cs us h2, h3⟩
  | .tup cs, u, hv => by
    simp only [VRep] at hv ⊢
    obtain ⟨us, h1, h2⟩ := hv
    exact ⟨us, h1, RowRep.objp hb cs us h2⟩
theorem RowRep.objp (hb : ∀ q, X.w.heap[b]? = some q → q.isCells = false) : ∀ (vs : List V) (us : List Value), RowRep X vs us → RowRep { X with w := X.w.putObj b o } vs us
  | [], us, hv => by simpa [RowRep] using hv
  | v :: vs, us, hv => by
    simp only [RowRep] at hv ⊢
    obtain ⟨u, us', h1, h2, h3⟩ := hv
    exact ⟨u, us', h1, VRep.objp hb v u h2, RowRep.objp hb vs us' h3⟩
theorem CellsAt.objp (hb : ∀ q, X.w.heap[b]? = some q → q.isCells = false) : ∀ (vs : List V) (d c : Nat), CellsAt X vs d c → CellsAt { X with w := X.w.putObj b o } vs d c
  | [], d, c, hv => by simp [CellsAt]
  | v :: vs, d, c, hv => by
    simp only [CellsAt] at hv ⊢
    obtain ⟨⟨u, h1, h2, h3, h5⟩, h4⟩ := hv
    exact ⟨⟨u, cell_putObj hb h1, VRep.objp hb v u h2, h3, h5⟩, CellsAt.objp hb vs d (c + 1) h4⟩
theorem RowsAt.objp (hb : ∀ q, X.w.heap[b]? = some q → q.isCells = false) (e : Nat) : ∀ (vs : List (List V)) (d c : Nat), RowsAt X e vs d c → RowsAt { X with w := X.w.putObj b o } e vs d c
  | [], d, c, hv => by simp [RowsAt]
  | r :: rs, d, c, hv => by
    simp only [RowsAt] at hv ⊢
    exact ⟨hv.1, CellsAt.objp hb r d c hv.2.1, RowsAt.objp hb e rs d (c + e) hv.2.2⟩
end
theorem R.objp {n : Nat} (h : R n X) (hO : X.O b = .frz) (hb : ∀ q, X.w.heap[b]? = some q → q.isCells = false) : R n { X with w := X.w.putObj b o } := by
  refine ⟨h.dead, fun d hd => h.free d (by simpa using hd), fun k cs hk => ?_, fun k v e rows hk => ?_, fun k q hk => ?_⟩
  · obtain ⟨h1, us, ty, h2, h3, h4⟩ := h.box k cs hk
    exact ⟨h1, us, ty, heap_putObj hb h2, RowRep.objp hb _ _ h3, h4⟩
  · obtain ⟨g1, g2⟩ := h.gbox k v e rows hk
    exact ⟨g1, g2.imp id fun ⟨j1, us, rest, ty, j2, j3, j4, j5⟩ => ⟨j1, us, rest, ty, heap_putObj hb j2, RowRep.objp hb _ _ j3, j4, j5⟩⟩
  · obtain ⟨g1, g2, g3⟩ := h.obj k q hk
    have : X.bl k ≠ b := by intro e; rw [e, hO] at g1; cases g1
    exact ⟨g1, (World.putObj_heap_other this).trans g2, g3⟩
theorem Ext.objp {C : Ctx} (h : Ext C X) (hC : C.O b = .free) (hb : ∀ q, X.w.heap[b]? = some q → q.isCells = false) : Ext C { X with w := X.w.putObj b o } := by
  refine ⟨fun d c hs => ?_, h.box, fun k m hk => ?_, fun d hd => ?_, fun k v e rows hk => ?_, h.os, h.tape, h.output, by simpa using h.size⟩
  · obtain ⟨g1, g2⟩ := h.stb d c hs
    have : d ≠ b := by intro e; subst e; rw [hC] at hs; exact hs
    exact ⟨g1, (World.cell?_of_block (w := X.w) (a := ⟨d, c, none⟩) (World.putObj_heap_other this)).trans g2⟩
  · obtain ⟨m', h1, h2, h3⟩ := h.tail k m hk
    refine ⟨m', h1, h2, fun hm d st arr ty k1 k2 => ?_⟩
    obtain ⟨g1, arr', g2, g3⟩ := h3 hm d st arr ty k1 k2
    exact ⟨g1, arr', heap_putObj hb g2, g3⟩
  · obtain ⟨g1, g2⟩ := h.frz d hd
    have : d ≠ b := by intro e; subst e; rw [hC] at hd; cases hd
    exact ⟨g1, (World.putObj_heap_other this).trans g2⟩
  · obtain ⟨v', rows', h1, h2, h3⟩ := h.gc k v e rows hk
    refine ⟨v', rows', h1, h2, fun hv => ⟨(h3 hv).1, fun hO => ?_⟩⟩
    obtain ⟨g1, g2⟩ := (h3 hv).2 hO
    refine ⟨g1, fun us ty hu => ?_⟩
    obtain ⟨us', k1, k2⟩ := g2 us ty hu
    exact ⟨us', heap_putObj hb k1, k2⟩
end
/-- What is told of entries, cut to those that there were. -/
theorem trim {n n' : Nat} {C X' : Ctx} {g : Nat → Box} (hR : R n C) (hR' : R n' X') (e : Ext C X') (hg0 : ∀ k, n ≤ k → g k = .dead) (hgc : ∀ k cs, g k = .cells cs → bdL n cs) (hgg : ∀ k v e rows, g k = .gcells v e rows → bdR n rows)
    (hle : ∀ k, k < n → BoxLe (X'.bx k) (g k)) : ∃ X2, X2.w = X'.w ∧ X2.bl = X'.bl ∧ X2.O = X'.O ∧ X2.bx = g ∧ R n X2 ∧ Ext C X2 ∧ ∀ v u, v.bd n → VRep X' v u → VRep X2 v u := by
  let X2 : Ctx := { X' with bx := g }
  have hX2 : ∀ k, k < n → SameK (X'.bx k) (X2.bx k) := fun k hk => (hle k hk).same
  have hlt : ∀ k, g k ≠ .dead → k < n := fun k h => Nat.lt_of_not_le fun hn => h (hg0 k hn)
  refine ⟨X2, rfl, rfl, rfl, rfl, ⟨hg0, hR'.free, fun k cs hk => ?_, fun k v e rows hk => ?_, fun k o hk => ?_⟩, ?_, fun v u hv h => VRep.cut (X := X') (X' := X2) rfl rfl rfl hX2 v u hv h⟩
  · have hk' : g k = .cells cs := hk
    have hle' := hle k (hlt k (by rw [hk']; intro h; cases h))
    rw [hk'] at hle'
    have hfull : ∃ cs0, X'.bx k = .cells cs0 ∧ ∀ us, RowRep X' cs0 us → RowRep X' cs us := by
      rcases hle' with h1 | ⟨c0, c1, h1, h2, h3⟩ | ⟨v0, e0, r0, r1, h1, h2, h3⟩
      · exact ⟨cs, h1, fun _ h => h⟩
      · cases h2; exact ⟨c0, h1, fun _ h => h3.row h⟩
      · cases h2
    obtain ⟨cs0, h0, hrow⟩ := hfull
    obtain ⟨h1, us, ty, h2, h3, h4⟩ := hR'.box k cs0 h0
    exact ⟨h1, us, ty, h2, RowRep.cut (X := X') (X' := X2) rfl rfl rfl hX2 _ _ (hgc k cs hk') (hrow _ h3), h4⟩
  · have hk' : g k = .gcells v e rows := hk
    have hle' := hle k (hlt k (by rw [hk']; intro h; cases h))
    rw [hk'] at hle'
    have hfull : ∃ rows0, X'.bx k = .gcells v e rows0 ∧ (VLess rows0 rows ∨ rows = []) := by
      rcases hle' with h1 | ⟨c0, c1, h1, h2, h3⟩ | ⟨v0, e0, r0, r1, h1, h2, h3⟩
      · exact ⟨rows, h1, .inl (VLess.refl _)⟩
      · cases h2
      · cases h2; exact ⟨r0, h1, h3⟩
    obtain ⟨rows0, h0, hrow⟩ := hfull
    obtain ⟨g1, g2⟩ := hR'.gbox k v e rows0 h0
    rcases hrow with hrow | rfl
    · refine ⟨hrow.lens g1, ?_⟩
      rcases g2 with rfl | ⟨j1, us, rest, ty, j2, j3, j4, j5⟩
      · cases hrow; exact .inl rfl
      · exact .inr ⟨j1, us, rest, ty, j2, RowRep.cut (X := X') (X' := X2) rfl rfl rfl hX2 _ _ (bdL_flat (hgg k v e rows hk')) (hrow.flat.row j3), by rw [j4, hrow.length], j5⟩
    · exact ⟨by simp, .inl rfl⟩
  · have hk' : g k = .obj o := hk
    have hle' := hle k (hlt k (by rw [hk']; intro h; cases h))
    rw [hk'] at hle'
    have h0 : X'.bx k = .obj o := by
      rcases hle' with h1 | ⟨c0, c1, h1, h2, h3⟩ | ⟨v0, e0, r0, r1, h1, h2, h3⟩
      · exact h1
      · cases h2
      · cases h2
    exact hR'.obj k o h0
  · refine ⟨e.stb, fun k hk => ?_, fun k m hk => ?_, e.frz, fun k v e0 rows hk => ?_, e.os, e.tape, e.output, e.size⟩
    · exact ⟨(hX2 k (is_lt hR hk)).1 (e.box k hk).1, (e.box k hk).2⟩
    · have hkn : k < n := Nat.lt_of_not_le fun hn => by rw [hR.dead k hn] at hk; cases hk
      obtain ⟨m', h1, h2, h3⟩ := e.tail k m hk
      exact ⟨m', (hX2 k hkn).2.1 m' h1, h2, h3⟩
    · have hkn : k < n := Nat.lt_of_not_le fun hn => by rw [hR.dead k hn] at hk; cases hk
      obtain ⟨v', rows', h1, h2, h3⟩ := e.gc k v e0 rows hk
      obtain ⟨rows2, h4⟩ := (hX2 k hkn).2.2 v' e0 rows' h1
      exact ⟨v', rows2, h4, h2, h3⟩
theorem upds_bd {n : Nat} {C : Ctx} {up : List (Nat × Box)} (hR : R n C) (hup : ∀ p ∈ up, p.1 < n) (hupb : ∀ p ∈ up, ∀ cs, p.2 = .cells cs → bdL n cs) (hupg : ∀ p ∈ up, ∀ v e rows, p.2 = .gcells v e rows → bdR n rows) :
    (∀ k, n ≤ k → upds C.bx up k = .dead) ∧ (∀ k cs, upds C.bx up k = .cells cs → bdL n cs) ∧ ∀ k v e rows, upds C.bx up k = .gcells v e rows → bdR n rows := by
  refine ⟨fun k hk => ?_, fun k cs hk => ?_, fun k v e rows hk => ?_⟩
  · rw [upds_not _ _ _ (fun p hp e => by have := hup p hp; omega), hR.dead k hk]
  · rcases upds_mem up C.bx k with h1 | ⟨p, h1, h2, h3⟩
    · obtain ⟨_, us, _, _, h3, _⟩ := hR.box k cs (h1 ▸ hk); exact RowRep.bd hR _ _ h3
    · exact hupb p h1 cs (h3 ▸ hk)
  · rcases upds_mem up C.bx k with h1 | ⟨p, h1, h2, h3⟩
    · obtain ⟨g1, g2⟩ := hR.gbox k v e rows (h1 ▸ hk)
      rcases g2 with rfl | ⟨_, us, _, _, _, h3, _⟩
      · simp [bdR]
      · exact bdR_flat (RowRep.bd hR _ _ h3)
    · exact hupg p h1 v e rows (h3 ▸ hk)
/-- The end of a function: what it leaves, told as its contract tells it. -/
theorem fin_end {P : Program} {n N : Nat} {X : Ctx} {B : Bas} {fn : Func} {up : List (Nat × Box)} {r : V} {s' : S} {X' : Ctx} {a' : Act} (hR : R n X) (hup : ∀ p ∈ up, p.1 < n) (hB : B.c = X) (hs' : St B N s' X' a') (hfin : Fin P n X.bx up r fn.results.toList s') :
    ∃ v, (results fn a'.tmps).run P X'.w = .ok v X'.w ∧ ∃ X3 u', Ending.returned v = .returned u' ∧ VRep X3 r u' ∧ X3.bx = upds X.bx up ∧ R n X3 ∧ Ext X X3 ∧ X3.w = X'.w := by
  obtain ⟨⟨vs', hres, hle, hrb⟩, hbx', hupb, hupg⟩ := hfin
  obtain ⟨u, hru, hvu⟩ := results_run (fn := fn) hs' hres
  obtain ⟨b1, b2, b3⟩ := upds_bd hR hup hupb hupg
  obtain ⟨X2, x1, _, _, x2, x3, x4, x5⟩ := trim hR hs'.rr (hB ▸ hs'.ext) b1 b2 b3 (fun k hk => by rw [hs'.bx]; exact hbx' k hk)
  exact ⟨u, hru, X2, u, rfl, x5 _ _ hrb (hle _ _ hvu), x2, x3, x4, x1⟩
/-- A function's way out, past the marks of its ranges over functions. -/
theorem leaves_marks {P : Program} {fn : Func} {tmps : Array Value} {Rr : Ending → World → Prop} {n : Nat} {C : Ctx} : ∀ (ms : List Nat) (X : Ctx), ms.Nodup → R n X → Ext C X → (∀ D ∈ ms, C.O D = .free ∧ X.O D = .frz ∧ X.w.heap[D]? = some (.deferred (some []))) →
    (∀ X', R n X' → Ext C X' → X'.bx = X.bx → (∀ v u, VRep X v u → VRep X' v u) → LeavesIn Fence.wide 0 P fn tmps Rr [] .returning X'.w) → LeavesInM Fence.wide 0 P fn tmps Rr (ms.map markD) .returning X.w
  | [], X, _, hR, he, _, h => h X hR he rfl (fun _ _ h => h)
  | D :: ms, X, hn, hR, he, hm, h => by
    obtain ⟨g1, g2, g3⟩ := hm D (List.mem_cons_self ..)
    have hb : ∀ q, X.w.heap[D]? = some q → q.isCells = false := fun q hq => by rw [g3] at hq; cases hq; rfl
    refine ⟨by simp, .inl ⟨D, _, rfl, run_takeDeferred g3, ?_⟩⟩
    have hn' := List.nodup_cons.1 hn
    refine leaves_marks ms { X with w := X.w.putObj D (.deferred none) } hn'.2 (hR.objp g2 hb) (he.objp g1 hb) (fun D' hD' => ?_) (fun X' k1 k2 k3 k4 => h X' k1 k2 k3 fun v u hv => k4 v u (VRep.objp hb v u hv))
    obtain ⟨j1, j2, j3⟩ := hm D' (List.mem_cons_of_mem _ hD')
    have : D' ≠ D := by intro e; subst e; exact hn'.1 hD'
    exact ⟨j1, j2, (World.putObj_heap_other this).trans j3⟩
/-- Where an outermost range may stand. -/
structure Outer (B : Bas) : Prop where
  R : B.R = none
  mks : B.mks = true
  free : ∀ b, B.c.w.heap.size ≤ b → B.c.O b = .free
theorem does_intro {P : Program} {f : FuncId} {fn : Func} {c : Code} {vs : List V} {pre up : List (Nat × Box)} {r : V} (hf : P.funcs[f]? = some fn) (hb : fn.body = some c) (hl : vs.length ≤ fn.ntmps)
    (h : ∀ n B bx, (∀ k, n ≤ k → bx k = .dead) → (∀ p ∈ pre, bx p.1 = p.2) → (∀ p ∈ up, p.1 < n) → bdL n vs → (∀ k cs, bx k = .cells cs → bdL n cs) → (∀ k v e rows, bx k = .gcells v e rows → bdR n rows) → Outer B →
      Runs P B fn.ntmps c ⟨fun i => vs.getD i .junk, n, bx⟩ (fun e s => (e = .normal ∨ e = .ret) ∧ Fin P n bx up r fn.results.toList s)) : Does P f vs pre up r := by
  intro n X args hR hargs hpre hup
  have hbx : ∀ k cs, X.bx k = .cells cs → bdL n cs := fun k cs hk => by obtain ⟨_, us, _, _, h3, _⟩ := hR.box k cs hk; exact RowRep.bd hR _ _ h3
  have hgx : ∀ k v e rows, X.bx k = .gcells v e rows → bdR n rows := fun k v e rows hk => by
    obtain ⟨g1, g2⟩ := hR.gbox k v e rows hk
    rcases g2 with rfl | ⟨_, us, _, _, _, h3, _⟩
    · simp [bdR]
    · exact bdR_flat (RowRep.bd hR _ _ h3)
  refine (callsIn_wide (n := 0)).1 (callsIn_of_wp_marks hf hb trivial ?_)
  have hlen : args.size = vs.length := by have := hargs.length; simpa using this.symm
  have hst : St (base X) fn.ntmps ⟨fun i => vs.getD i .junk, n, X.bx⟩ X { tmps := args ++ Array.replicate (fn.ntmps - args.size) undef, defers := [] } := by
    refine ⟨hR, rfl, fun i => ?_, ?_, .nil rfl, Ext.refl X⟩
    · have := getD_rep vs args.toList (fn.ntmps - args.size) i hargs
      simpa [List.getD_eq_getElem?_getD, Array.getElem?_append, List.getElem?_append, Array.getElem?_replicate, List.getElem?_replicate] using this
    · simp; omega
  refine wpIn_mono (h n (base X) X.bx hR.dead hpre hup (RowRep.bd hR _ _ hargs) hbx hgx ⟨rfl, rfl, hR.free⟩ X _ hst) ?_
  rintro e a' w' (⟨s', X', ⟨he, hfin⟩, rfl, hs'⟩ | ⟨_, hE⟩)
  rotate_left
  · exact hE.elim
  obtain ⟨ms, _, m2, m3, m4⟩ := hs'.defers
  have m3' : a'.defers = ms.map markD := by rw [m3]; exact List.append_nil _
  have key : LeavesInM Fence.wide 0 P fn a'.tmps (fun e w' => ∃ X' u, e = .returned u ∧ VRep X' r u ∧ X'.bx = upds X.bx up ∧ R n X' ∧ Ext X X' ∧ X'.w = w') (ms.map markD) .returning X'.w := by
    refine leaves_marks (n := s'.n) (C := X) ms X' m2 hs'.rr hs'.ext m4 (fun X'' k1 k2 k3 k4 => ?_)
    have hs2 : St (base X) fn.ntmps s' X'' { a' with defers := [] } := ⟨k1, k3.trans hs'.bx, fun i => k4 _ _ (hs'.t i), hs'.N, .nil rfl, k2⟩
    obtain ⟨v, h1, X3, u', h2, h3, h4, h5, h6, h7⟩ := fin_end hR hup rfl hs2 hfin
    exact ⟨v, h1, X3, u', h2, h3, h4, h5, h6, h7⟩
  rw [← m3'] at key
  rcases he with rfl | rfl
  · exact key
  · exact key
end Go.Vm

