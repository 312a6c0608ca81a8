/- A logic of values over the model. Part S: ranges over functions: what yield does, what an iterator does, the loop. -/
import Derived.Test.YthpkhecialkmmaaKeVmR
import Derived.RangeFuncIn
import Derived.RangeFuncNested
set_option linter.unusedVariables false
set_option linter.unusedSimpArgs false
namespace Go.Vm
/-! ### Objects as boxes -/
theorem set_obj {n k : Nat} {X : Ctx} {o o' : Obj} (h : R n X) (hk : X.bx k = .obj o) (ho : o'.isCells = false) :
    R n { X with bx := upd X.bx k (.obj o'), w := X.w.putObj (X.bl k) o' } ∧ Ext X { X with bx := upd X.bx k (.obj o'), w := X.w.putObj (X.bl k) o' } := by
  obtain ⟨hO, hh, hc⟩ := h.obj k o hk
  have hlt : X.bl k < X.w.heap.size := (Array.getElem?_eq_some_iff.1 hh).1
  have hne : ∀ b, b ≠ X.bl k → (X.w.putObj (X.bl k) o').heap[b]? = X.w.heap[b]? := fun b hb => World.putObj_heap_other hb
  have he : Ext X { X with bx := upd X.bx k (.obj o'), w := X.w.putObj (X.bl k) o' } := by
    refine ⟨fun b o hs => ⟨hs, ?_⟩, fun j hj => ⟨?_, rfl⟩, fun j m hj => ⟨m, ?_, Nat.le_refl _, fun _ b st arr ty h1 h2 => ⟨h1, arr, ?_, rfl⟩⟩, fun b hb => ⟨hb, ?_⟩, gc_same fun j v e rows hj => ⟨?_, rfl, fun hOj => ⟨hOj, ?_⟩⟩, rfl, rfl, rfl, by simp⟩
    · have : b ≠ X.bl k := by intro e; subst e; rw [hO] at hs; exact hs
      exact World.cell?_of_block (w := X.w) (a := ⟨b, o, none⟩) (hne b this)
    · show (upd X.bx k (.obj o') j).is
      by_cases e : j = k
      · subst e; rw [upd_eq]; trivial
      · rw [upd_ne _ _ _ _ e]; exact hj
    · show upd X.bx k (.obj o') j = _
      have e : j ≠ k := by intro e; subst e; rw [hk] at hj; cases hj
      rw [upd_ne _ _ _ _ e]; exact hj
    · have : b ≠ X.bl k := by intro e; subst e; rw [hO] at h1; cases h1
      exact (hne b this).trans h2
    · have : b ≠ X.bl k := by intro e; subst e; rw [hO] at hb; cases hb
      exact hne b this
    · show upd X.bx k (.obj o') j = _
      have e : j ≠ k := by intro e; subst e; rw [hk] at hj; cases hj
      rw [upd_ne _ _ _ _ e]; exact hj
    · have e : j ≠ k := by intro e; subst e; rw [hk] at hj; cases hj
      have : X.bl j ≠ X.bl k := by intro e2; rw [e2, hO] at hOj; cases hOj; exact e rfl
      exact hne _ this
  refine ⟨⟨fun j hj => ?_, fun b hb => h.free b (by simpa using hb), fun j cs1 hj => ?_, gbox_same h he fun j v e rows hj => ?_, fun j q hj => ?_⟩, he⟩
  · show upd X.bx k (.obj o') j = _
    have e : j ≠ k := by intro e; subst e; rw [h.dead j hj] at hk; cases hk
    rw [upd_ne _ _ _ _ e]; exact h.dead j hj
  · have hj' : upd X.bx k (.obj o') j = .cells cs1 := hj
    have e : j ≠ k := by intro e; subst e; rw [upd_eq] at hj'; cases hj'
    rw [upd_ne _ _ _ _ e] at hj'
    obtain ⟨h1, us, ty, h2, h3, h4⟩ := h.box j cs1 hj'
    have : X.bl j ≠ X.bl k := by intro e2; rw [e2] at h1; rw [h1] at hO; cases hO; exact e rfl
    exact ⟨h1, us, ty, (hne _ this).trans h2, RowRep.mono he _ _ h3, h4⟩
  · have hj' : upd X.bx k (.obj o') j = .gcells v e rows := hj
    have e : j ≠ k := by intro e; subst e; rw [upd_eq] at hj'; cases hj'
    rw [upd_ne _ _ _ _ e] at hj'
    refine ⟨hj', rfl, fun hOj => ⟨hOj, hne _ ?_⟩⟩
    intro e2; rw [e2, hO] at hOj; cases hOj; exact e rfl
  · have hj' : upd X.bx k (.obj o') j = .obj q := hj
    by_cases e : j = k
    · subst e
      rw [upd_eq] at hj'; cases hj'
      exact ⟨hO, World.putObj_heap_same hlt, ho⟩
    · rw [upd_ne _ _ _ _ e] at hj'
      obtain ⟨h1, h2, h3⟩ := h.obj j q hj'
      have : X.bl j ≠ X.bl k := by intro e2; rw [e2] at h1; rw [h1] at hO; cases hO; exact e rfl
      exact ⟨h1, (hne _ this).trans h2, h3⟩
section
variable {n : Nat} {X X' : Ctx} {o : Obj}
theorem alloc_ne (hw : X'.w = X.w.alloc o) : ∀ b, b ≠ X.w.heap.size → X'.w.heap[b]? = X.w.heap[b]? := by
  intro b hb
  rw [hw]
  show (X.w.heap.push o)[b]? = _
  rw [Array.getElem?_push, if_neg hb]
end
theorem new_obj {n k : Nat} {X : Ctx} {o : Obj} (h : R n X) (hk : X.bx k = .dead) (hn : k < n) (ho : o.isCells = false) :
    ∃ X', X'.bx = upd X.bx k (.obj o) ∧ X'.w = X.w.alloc o ∧ X'.bl k = X.w.heap.size ∧ R n X' ∧ Ext X X' := by
  let X' : Ctx := { O := upd X.O X.w.heap.size (.box k), bl := upd X.bl k X.w.heap.size, bx := upd X.bx k (.obj o), w := X.w.alloc o }
  have hfree := h.free X.w.heap.size (Nat.le_refl _)
  have hne : ∀ b, b ≠ X.w.heap.size → X'.w.heap[b]? = X.w.heap[b]? := alloc_ne (X' := X') rfl
  have hOne : ∀ b, b ≠ X.w.heap.size → X'.O b = X.O b := fun b hb => upd_ne _ _ _ _ hb
  have he : Ext X X' := by
    refine ⟨fun b o hs => ?_, fun j hj => ?_, fun j m hj => ⟨m, ?_, Nat.le_refl _, fun _ b st arr ty h1 h2 => ⟨?_, arr, ?_, rfl⟩⟩, fun b hb => ?_, gc_same fun j v e rows hj => ?_, rfl, rfl, rfl, by show _ ≤ (X.w.heap.push _).size; simp⟩
    · have : b ≠ X.w.heap.size := by intro e; subst e; rw [hfree] at hs; exact hs
      rw [hOne b this]
      exact ⟨hs, World.cell?_of_block (w := X.w) (a := ⟨b, o, none⟩) (hne b this)⟩
    · have e : j ≠ k := by intro e; subst e; rw [hk] at hj; exact hj
      exact ⟨by show (upd X.bx k (.obj _) j).is; rw [upd_ne _ _ _ _ e]; exact hj, upd_ne _ _ _ _ e⟩
    · have e : j ≠ k := by intro e; subst e; rw [hk] at hj; cases hj
      exact (upd_ne _ _ _ _ e).trans hj
    · have : b ≠ X.w.heap.size := by intro e; subst e; rw [hfree] at h1; cases h1
      rw [hOne b this]; exact h1
    · have : b ≠ X.w.heap.size := by intro e; subst e; rw [hfree] at h1; cases h1
      exact (hne b this).trans h2
    · have : b ≠ X.w.heap.size := by intro e; subst e; rw [hfree] at hb; cases hb
      rw [hOne b this]
      exact ⟨hb, hne b this⟩
    · have e : j ≠ k := by intro e; subst e; rw [hk] at hj; cases hj
      refine ⟨(upd_ne _ _ _ _ e).trans hj, upd_ne _ _ _ _ e, fun hOj => ?_⟩
      have : X.bl j ≠ X.w.heap.size := by intro e; rw [e, hfree] at hOj; cases hOj
      exact ⟨(hOne _ this).trans hOj, hne _ this⟩
  refine ⟨X', rfl, rfl, upd_eq _ _ _, ⟨fun j hj => ?_, fun b hb => ?_, fun j cs1 hj => ?_, gbox_same h he fun j v e rows hj => ?_, fun j q hj => ?_⟩, he⟩
  · have e : j ≠ k := by omega
    exact (upd_ne _ _ _ _ e).trans (h.dead j hj)
  · have hb' : (X.w.heap.push o).size ≤ b := hb
    rw [Array.size_push] at hb'
    rw [hOne b (by omega)]
    exact h.free b (by omega)
  · have hj' : upd X.bx k (.obj o) j = .cells cs1 := hj
    have e : j ≠ k := by intro e; subst e; rw [upd_eq] at hj'; cases hj'
    rw [upd_ne _ _ _ _ e] at hj'
    obtain ⟨h1, us1, ty1, h2, h3, h4⟩ := h.box j cs1 hj'
    have hbl : X'.bl j = X.bl j := upd_ne _ _ _ _ e
    have : X.bl j ≠ X.w.heap.size := by intro e2; rw [e2] at h1; rw [hfree] at h1; cases h1
    rw [hbl, hOne _ this]
    exact ⟨h1, us1, ty1, (hne _ this).trans h2, RowRep.mono he _ _ h3, h4⟩
  · have hj' : upd X.bx k (.obj o) j = .gcells v e rows := hj
    have e : j ≠ k := by intro e; subst e; rw [upd_eq] at hj'; cases hj'
    rw [upd_ne _ _ _ _ e] at hj'
    refine ⟨hj', upd_ne _ _ _ _ e, fun hOj => ?_⟩
    have : X.bl j ≠ X.w.heap.size := by intro e; rw [e, hfree] at hOj; cases hOj
    exact ⟨(hOne _ this).trans hOj, hne _ this⟩
  · have hj' : upd X.bx k (.obj o) j = .obj q := hj
    by_cases e : j = k
    · subst e
      rw [upd_eq] at hj'; cases hj'
      have hbl : X'.bl j = X.w.heap.size := upd_eq _ _ _
      rw [hbl]
      refine ⟨upd_eq _ _ _, ?_, ho⟩
      show (X.w.heap.push _)[X.w.heap.size]? = _
      simp
    · rw [upd_ne _ _ _ _ e] at hj'
      obtain ⟨h1, h2, h3⟩ := h.obj j q hj'
      have hbl : X'.bl j = X.bl j := upd_ne _ _ _ _ e
      have : X.bl j ≠ X.w.heap.size := by intro e2; rw [e2] at h1; rw [hfree] at h1; cases h1
      rw [hbl, hOne _ this]
      exact ⟨h1, (hne _ this).trans h2, h3⟩
theorem new_frzo {n : Nat} {X : Ctx} {o : Obj} (h : R n X) : ∃ X', X'.bx = X.bx ∧ X'.bl = X.bl ∧ X'.w = X.w.alloc o ∧ X'.O X.w.heap.size = .frz ∧ R n X' ∧ Ext X X' := by
  let X' : Ctx := { X with O := upd X.O X.w.heap.size .frz, w := X.w.alloc o }
  have hfree := h.free X.w.heap.size (Nat.le_refl _)
  have hne : ∀ b, b ≠ X.w.heap.size → X'.w.heap[b]? = X.w.heap[b]? := alloc_ne (X' := X') rfl
  have hOne : ∀ b, b ≠ X.w.heap.size → X'.O b = X.O b := fun b hb => upd_ne _ _ _ _ hb
  have hbn : ∀ j, X.O (X.bl j) = .box j → X.bl j ≠ X.w.heap.size := fun j hO e => by rw [e, hfree] at hO; cases hO
  have he : Ext X X' := by
    refine ⟨fun b o hs => ?_, fun j hj => ⟨hj, rfl⟩, fun j m hj => ⟨m, hj, Nat.le_refl _, fun _ b st arr ty h1 h2 => ⟨?_, arr, ?_, rfl⟩⟩, fun b hb => ?_, gc_same fun j v e rows hj => ⟨hj, rfl, fun hOj => ⟨(hOne _ (hbn j hOj)).trans hOj, hne _ (hbn j hOj)⟩⟩, rfl, rfl, rfl, by show _ ≤ (X.w.heap.push _).size; simp⟩
    · have : b ≠ X.w.heap.size := by intro e; subst e; rw [hfree] at hs; exact hs
      rw [hOne b this]
      exact ⟨hs, World.cell?_of_block (w := X.w) (a := ⟨b, o, none⟩) (hne b this)⟩
    · have : b ≠ X.w.heap.size := by intro e; subst e; rw [hfree] at h1; cases h1
      rw [hOne b this]; exact h1
    · have : b ≠ X.w.heap.size := by intro e; subst e; rw [hfree] at h1; cases h1
      exact (hne b this).trans h2
    · have : b ≠ X.w.heap.size := by intro e; subst e; rw [hfree] at hb; cases hb
      rw [hOne b this]
      exact ⟨hb, hne b this⟩
  refine ⟨X', rfl, rfl, rfl, upd_eq _ _ _, ⟨fun j hj => h.dead j hj, fun b hb => ?_, fun j cs1 hj => ?_, gbox_same h he fun j v e rows hj => ⟨hj, rfl, fun hOj => ⟨(hOne _ (hbn j hOj)).trans hOj, hne _ (hbn j hOj)⟩⟩, obj_same h he fun j o hj => ⟨hj, rfl, fun hOj => ⟨(hOne _ (hbn j hOj)).trans hOj, hne _ (hbn j hOj)⟩⟩⟩, he⟩
  · have hb' : (X.w.heap.push o).size ≤ b := hb
    rw [Array.size_push] at hb'
    rw [hOne b (by omega)]
    exact h.free b (by omega)
  · obtain ⟨h1, us1, ty1, h2, h3, h4⟩ := h.box j cs1 hj
    exact ⟨(hOne _ (hbn j h1)).trans h1, us1, ty1, (hne _ (hbn j h1)).trans h2, RowRep.mono he _ _ h3, h4⟩
mutual
theorem V.bd_mono {n m : Nat} (h : n ≤ m) : ∀ v : V, v.bd n → v.bd m
  | .junk, _ => by simp [V.bd]
  | .sc v, _ => by simp [V.bd]
  | .ref k o, hv => by simp only [V.bd] at hv ⊢; omega
  | .ro row, hv => by simp only [V.bd] at hv ⊢; exact bdL_mono h row hv
  | .sl e xs, hv => by simp only [V.bd] at hv ⊢; exact bdR_mono h xs hv
  | .fl e xs, hv => by simp only [V.bd] at hv ⊢; exact bdR_mono h xs hv
  | .own e xs k, hv => by simp only [V.bd] at hv ⊢; exact ⟨bdR_mono h xs hv.1, by omega⟩
  | .msl k o len cap e, hv => by simp only [V.bd] at hv ⊢; omega
  | .gsl k v q len e, hv => by simp only [V.bd] at hv ⊢; omega
  | .gref k v o, hv => by simp only [V.bd] at hv ⊢; omega
  | .fn f cap, hv => by simp only [V.bd] at hv ⊢; exact bdL_mono h cap hv
  | .agg cs, hv => by simp only [V.bd] at hv ⊢; exact bdL_mono h cs hv
  | .tup vs, hv => by simp only [V.bd] at hv ⊢; exact bdL_mono h vs hv
theorem bdL_mono {n m : Nat} (h : n ≤ m) : ∀ vs : List V, bdL n vs → bdL m vs
  | [], _ => trivial
  | v :: vs, hv => by simp only [bdL] at hv ⊢; exact ⟨V.bd_mono h v hv.1, bdL_mono h vs hv.2⟩
theorem bdR_mono {n m : Nat} (h : n ≤ m) : ∀ xs : List (List V), bdR n xs → bdR m xs
  | [], _ => trivial
  | r :: rs, hv => by simp only [bdR] at hv ⊢; exact ⟨bdL_mono h r hv.1, bdR_mono h rs hv.2⟩
end
/-- What an entry holds speaks of entries below n alone. -/
def BdB (n : Nat) (b : Box) : Prop := (∀ cs, b = .cells cs → bdL n cs) ∧ ∀ v e rows, b = .gcells v e rows → bdR n rows
theorem BdB.mono {n m : Nat} {b : Box} (h : BdB n b) (hm : n ≤ m) : BdB m b := ⟨fun cs e => bdL_mono hm _ (h.1 cs e), fun v e rows q => bdR_mono hm _ (h.2 v e rows q)⟩
theorem R.bdB {n : Nat} {X : Ctx} (h : R n X) (k : Nat) : BdB n (X.bx k) :=
  ⟨fun cs hk => by obtain ⟨_, us, _, _, h3, _⟩ := h.box k cs hk; exact RowRep.bd h _ _ h3, fun v e rows hk => by
    obtain ⟨g1, g2⟩ := h.gbox k v e rows hk
    rcases g2 with rfl | ⟨_, us, _, _, _, h3, _⟩
    · simp [bdR]
    · exact bdR_flat (RowRep.bd h _ _ h3)⟩
theorem bdb_obj {n : Nat} (o : Obj) : BdB n (.obj o) := ⟨fun cs h => (by cases h), fun v e rows h => (by cases h)⟩
theorem bdb_cells {n : Nat} {cs : List V} (h : bdL n cs) : BdB n (.cells cs) := ⟨fun _ e => (by cases e; exact h), fun v e rows h => (by cases h)⟩
/-! ### Contracts -/
/-- Entries of which D is so hold what f says. -/
def ov (D : Nat → Bool) (f g : Nat → Box) : Nat → Box := fun k => match D k with
  | true => f k
  | false => g k
theorem ovN {D : Nat → Bool} {f g : Nat → Box} {k : Nat} {b : Box} (h : D k = false) (h2 : g k = b) : ov D f g k = b := by unfold ov; rw [h]; exact h2
theorem ovY {D : Nat → Bool} {f g : Nat → Box} {k : Nat} {b : Box} (h : D k = true) (h2 : f k = b) : ov D f g k = b := by unfold ov; rw [h]; exact h2
/-- A call of loop l's yield at a round: from any state behind Xb in which the caller's entries are as f says, to one in which they are as g says. -/
def DoesY (P : Program) (Xb : Ctx) (l n0 : Nat) (vs : List V) (D E : Nat → Bool) (f g : Nat → Box) (b : Bool) : Prop :=
  ∀ n X (args : List Value), n0 ≤ n → R n X → Ext Xb X → RowRep X vs args → (∀ k, D k = true → k < n ∧ X.bx k = f k) → (∀ k, k < n0 → D k = false → E k = false → X.bx k = Xb.bx k) →
    ∃ fn tmps assign body, (Instr.yield l args.toArray).run P X.w = .ok (.round l fn tmps assign body) X.w ∧
      RoundIn Fence.wide 0 P l fn tmps assign body X.w fun e w' => e = .returned (.bool b) ∧ ∃ X', X'.w = w' ∧ X'.bx = ov D g X.bx ∧ R n X' ∧ Ext X X'
/-- What an iterator does: it hands over xs, as far as it is asked; its own entries (E) go from e0 to what eF says (behind so many, stopped or not). -/
def DoesI (P : Program) (f : FuncId) (caps : List V) (xs : List (List V)) (E : Nat → Bool) (e0 : Nat → Box) (eF : Nat → Bool → Nat → Box) (pre : List (Nat × Box)) : Prop :=
  ∀ (Xb : Ctx) (l n0 : Nat) (D : Nat → Bool) (σ : Nat → Nat → Box) (m : Nat) (brk : Bool), m ≤ xs.length → (brk = true → 1 ≤ m) → (brk = false → m = xs.length) → (∀ k, D k = true → E k = false) → (∀ p ∈ pre, p.1 < n0 ∧ D p.1 = false ∧ E p.1 = false ∧ Xb.bx p.1 = p.2) →
    (∀ i v, i < m → xs[i]? = some v → DoesY P Xb l n0 v D E (σ i) (σ (i + 1)) (!(brk && Nat.beq (i + 1) m))) →
    ∀ n X (args : List Value), n0 ≤ n → R n X → Ext Xb X → RowRep X caps args → (∀ k, D k = true → k < n ∧ X.bx k = σ 0 k) → (∀ k, E k = true → k < n ∧ X.bx k = e0 k) → (∀ k, k < n0 → D k = false → E k = false → X.bx k = Xb.bx k) →
      (∀ i, i ≤ m → ∀ k, D k = true → BdB n (σ i k)) → (∀ k, E k = true → BdB n (eF m brk k)) →
      Calls P f (Value.func (.yield l) #[] #[] :: args).toArray X.w fun en w' => en = .returned (.tuple #[]) ∧ ∃ X', X'.w = w' ∧ X'.bx = ov D (σ m) (ov E (eF m brk) X.bx) ∧ R n X' ∧ Ext X X'
theorem DoesI.le {P : Program} {f : FuncId} {caps caps' : List V} {xs : List (List V)} {E : Nat → Bool} {e0 : Nat → Box} {eF : Nat → Bool → Nat → Box} {pre : List (Nat × Box)} (h : DoesI P f caps' xs E e0 eF pre) (hl : VLes caps caps') : DoesI P f caps xs E e0 eF pre :=
  fun Xb l n0 D σ m brk h1 h2 h3 h4 h4' h5 n X args k1 k2 k3 k4 k5 k6 k7 k8 k9 => h Xb l n0 D σ m brk h1 h2 h3 h4 h4' h5 n X args k1 k2 k3 (hl.row k4) k5 k6 k7 k8 k9
/-- An iterator off its body. -/
theorem doesI_mk {P : Program} {f : FuncId} {fn : Func} {c : Code} {caps : List V} {xs : List (List V)} {E : Nat → Bool} {e0 : Nat → Box} {eF : Nat → Bool → Nat → Box} {pre : List (Nat × Box)} (r : Nat) (hf : P.funcs[f]? = some fn) (hb : fn.body = some c) (hl : Nat.ble (caps.length + 1) fn.ntmps = true) (hres : fn.results = #[])
    (h : ∀ (Xb : Ctx) (l n0 : Nat) (D : Nat → Bool) (σ : Nat → Nat → Box) (m : Nat) (brk : Bool), m ≤ xs.length → (brk = true → 1 ≤ m) → (brk = false → m = xs.length) → (∀ k, D k = true → E k = false) → (∀ p ∈ pre, p.1 < n0 ∧ D p.1 = false ∧ E p.1 = false ∧ Xb.bx p.1 = p.2) →
      (∀ i v, i < m → xs[i]? = some v → DoesY P Xb l n0 v D E (σ i) (σ (i + 1)) (!(brk && Nat.beq (i + 1) m))) →
      ∀ n B bx, n0 ≤ n → Outer B → Ext Xb B.c → (∀ k, n ≤ k → bx k = .dead) → (∀ k, D k = true → k < n ∧ bx k = σ 0 k) → (∀ k, E k = true → k < n ∧ bx k = e0 k) → (∀ k, k < n0 → D k = false → E k = false → bx k = Xb.bx k) → bdL n caps → (∀ k, BdB n (bx k)) → (∀ i, i ≤ m → ∀ k, D k = true → BdB n (σ i k)) →
        Runs P B fn.ntmps c ⟨mk (((V.sc (.func (.yield l) #[] #[]) :: caps).zipIdx).map fun p => (p.2, p.1)), n + r, bx⟩ (fun e s => (e = .normal ∨ e = .ret) ∧ ∀ k, k < n → BoxLe (s.bx k) (ov D (σ m) (ov E (eF m brk) bx) k))) : DoesI P f caps xs E e0 eF pre := by
  intro Xb l n0 D σ m brk h1 h2 h3 h4 hpr hY n X args hn hR hXb hargs hD hE hOt hDb hEb
  refine (callsIn_wide (n := 0)).1 (callsIn_of_wp_marks hf hb trivial ?_)
  have hargs' : RowRep X (V.sc (.func (.yield l) #[] #[]) :: caps) (Value.func (.yield l) #[] #[] :: args) := by
    simp only [RowRep]; exact ⟨_, args, rfl, by simp [VRep], hargs⟩
  have hl' := Nat.le_of_ble_eq_true hl
  have hlen : args.length = caps.length := hargs.length.symm
  have hst : St (base X) fn.ntmps ⟨mk (((V.sc (.func (.yield l) #[] #[]) :: caps).zipIdx).map fun p => (p.2, p.1)), n + r, X.bx⟩ X { tmps := (Value.func (.yield l) #[] #[] :: args).toArray ++ Array.replicate (fn.ntmps - (Value.func (.yield l) #[] #[] :: args).toArray.size) undef, defers := [] } := by
    refine ⟨hR.bump (Nat.le_add_right _ _), rfl, fun i => ?_, by simp; omega, .nil rfl, Ext.refl X⟩
    have g1 := mk_zip (V.sc (.func (.yield l) #[] #[]) :: caps) 0 i
    rw [Nat.zero_add] at g1
    refine g1 X _ ?_
    have := getD_rep _ (Value.func (.yield l) #[] #[] :: args) (fn.ntmps - (Value.func (.yield l) #[] #[] :: args).toArray.size) i hargs'
    have e : ∀ (us : List Value) (q : Nat), us.toArray ++ Array.replicate q undef = (us ++ List.replicate q undef).toArray := fun us q => by simp
    show VRep X _ ((((Value.func (.yield l) #[] #[] :: args).toArray ++ Array.replicate _ undef : Array Value)).getD i undef)
    rw [e, Array.getD_eq_getD_getElem?, List.getElem?_toArray, ← List.getD_eq_getElem?_getD]
    exact this
  refine wpIn_mono (h Xb l n0 D σ m brk h1 h2 h3 h4 hpr hY n (base X) X.bx hn ⟨rfl, rfl, hR.free⟩ hXb hR.dead hD hE hOt (RowRep.bd hR _ _ hargs) hR.bdB hDb X _ hst) ?_
  rintro e a' w' (⟨s', X', ⟨he, hfin⟩, rfl, hs'⟩ | ⟨_, hE⟩)
  rotate_left
  · exact hE.elim
  obtain ⟨ms, _, m2, m3, m4⟩ := hs'.defers
  have m3' : a'.defers = ms.map markD := by rw [m3]; exact List.append_nil _
  have key : LeavesInM Fence.wide 0 P fn a'.tmps (fun en w' => en = .returned (.tuple #[]) ∧ ∃ X', X'.w = w' ∧ X'.bx = ov D (σ m) (ov E (eF m brk) X.bx) ∧ R n X' ∧ Ext X X') (ms.map markD) .returning X'.w := by
    refine leaves_marks (n := s'.n) (C := X) ms X' m2 hs'.rr hs'.ext m4 (fun X'' k1 k2 k3 k4 => ?_)
    have hg : ∀ k, BdB n (ov D (σ m) (ov E (eF m brk) X.bx) k) := fun k => by
      unfold ov
      cases hd : D k with
      | true => exact hDb m (Nat.le_refl _) k hd
      | false =>
        cases he : E k with
        | true => exact hEb k he
        | false => exact hR.bdB k
    obtain ⟨X2, x1, _, _, x2, x3, x4, _⟩ := trim hR k1 k2 (g := ov D (σ m) (ov E (eF m brk) X.bx)) (fun k hk => by
        refine ovN ?_ (ovN ?_ (hR.dead k hk))
        · cases hd : D k with
          | false => rfl
          | true => have := (hD k hd).1; omega
        · cases hd : E k with
          | false => rfl
          | true => have := (hE k hd).1; omega) (fun k cs e => (hg k).1 cs e) (fun k v e rows q => (hg k).2 v e rows q) (fun k hk => by rw [k3, hs'.bx]; exact hfin k hk)
    have hs2 : St (base X) fn.ntmps s' X'' { a' with defers := [] } := ⟨k1, k3.trans hs'.bx, fun i => k4 _ _ (hs'.t i), hs'.N, .nil rfl, k2⟩
    obtain ⟨u, hu1, hu2⟩ := results_run (fn := fn) (vs := []) hs2 (by rw [hres]; rfl)
    simp only [retV, VRep, RowRep] at hu2
    obtain ⟨us, rfl, rfl⟩ := hu2
    exact ⟨_, hu1, rfl, X2, x1, x2, x3, x4⟩
  rw [← m3'] at key
  rcases he with rfl | rfl
  · exact key
  · exact key
end Go.Vm

