/- A logic of values over the model. Part B: states, what code comes to, functions. -/
import Derived.Test.YthpkhecialkmmaaKeVmA
import Derived.TacticsIn
import Derived.OrdersIn
import Derived.Sort.LoopGhostIn
set_option linter.unusedVariables false
set_option linter.unusedSimpArgs false
namespace Go.Vm

def upd {α : Type} (f : Nat → α) (k : Nat) (v : α) : Nat → α := fun i => if i = k then v else f i
theorem upd_eq {α : Type} (f : Nat → α) (k : Nat) (v : α) : upd f k v k = v := if_pos rfl
theorem upd_ne {α : Type} (f : Nat → α) (k : Nat) (v : α) (i : Nat) (h : i ≠ k) : upd f k v i = f i := if_neg h
def upds {α : Type} (f : Nat → α) : List (Nat × α) → Nat → α
  | [] => f
  | (k, v) :: l => upds (upd f k v) l
theorem upds_not {α : Type} : ∀ (l : List (Nat × α)) (f : Nat → α) (i : Nat), (∀ p ∈ l, p.1 ≠ i) → upds f l i = f i
  | [], f, i, h => rfl
  | (k, v) :: l, f, i, h => by
    rw [upds, upds_not l _ i (fun p hp => h p (List.mem_cons_of_mem _ hp)), upd_ne _ _ _ _ (fun e => h (k, v) (List.mem_cons_self ..) e.symm)]
structure R (n : Nat) (X : Ctx) : Prop where
  dead : ∀ k, n ≤ k → X.bx k = .dead
  free : ∀ b, X.w.heap.size ≤ b → X.O b = .free
  box : ∀ k cs, X.bx k = .cells cs → X.O (X.bl k) = .box k ∧ ∃ us ty, X.w.heap[X.bl k]? = some (.cells (List.toArray us) ty (0, 0)) ∧ RowRep X cs us ∧ ∀ x ∈ us, oneV x = true
  gbox : ∀ k v e rows, X.bx k = .gcells v e rows → (∀ r ∈ rows, r.length = e) ∧ (rows = [] ∨ X.O (X.bl k) = .box k ∧ ∃ us rest ty, X.w.heap[X.bl k]? = some (.cells (us ++ rest).toArray ty (0, 0)) ∧ RowRep X rows.flatten us ∧ us.length = rows.length * e ∧ ∀ x ∈ us, oneV x = true)
  obj : ∀ k o, X.bx k = .obj o → X.O (X.bl k) = .box k ∧ X.w.heap[X.bl k]? = some o ∧ o.isCells = false
theorem R.bump {n m : Nat} {X : Ctx} (h : R n X) (hm : n ≤ m) : R m X := ⟨fun k hk => h.dead k (by omega), h.free, h.box, h.gbox, h.obj⟩

mutual
/-- It speaks of entries below n alone. -/
def V.bd (n : Nat) : V → Prop
  | .ref k _ => k < n
  | .ro row => bdL n row
  | .sl _ xs => bdR n xs
  | .fl _ xs => bdR n xs
  | .own _ xs k => bdR n xs ∧ k < n
  | .msl k _ _ _ _ => k < n
  | .gsl k _ _ _ _ => k < n
  | .gref k _ _ => k < n
  | .fn _ cap => bdL n cap
  | .agg cs => bdL n cs
  | .tup vs => bdL n vs
  | _ => True
def bdL (n : Nat) : List V → Prop
  | [] => True
  | v :: vs => v.bd n ∧ bdL n vs
def bdR (n : Nat) : List (List V) → Prop
  | [] => True
  | r :: rs => bdL n r ∧ bdR n rs
end
theorem is_lt {n k : Nat} {X : Ctx} (h : R n X) (hk : (X.bx k).is) : k < n := by
  apply Nat.lt_of_not_le
  intro hn
  rw [h.dead k hn] at hk
  exact hk
mutual
theorem VRep.bd {n : Nat} {X : Ctx} (h : R n X) : ∀ (v : V) (u : Value), VRep X v u → v.bd n
  | .junk, _, _ => by simp [V.bd]
  | .sc v, u, hv => by simp [V.bd]
  | .ref k o, u, hv => by simp only [VRep] at hv; simp only [V.bd]; exact is_lt h hv.1
  | .ro row, u, hv => by simp only [VRep] at hv; obtain ⟨b, o, _, h2⟩ := hv; simp only [V.bd]; exact CellsAt.bd h row b o h2
  | .sl e xs, u, hv => by
    simp only [VRep] at hv; simp only [V.bd]
    obtain ⟨a, c, _, _, h3⟩ := hv
    rcases h3 with rfl | ⟨b, o, _, h3⟩
    · simp [bdR]
    · exact RowsAt.bd h e xs b o h3
  | .fl e xs, u, hv => by
    simp only [VRep] at hv; simp only [V.bd]
    obtain ⟨a, _, h3⟩ := hv
    rcases h3 with rfl | ⟨b, o, _, h3⟩
    · simp [bdR]
    · exact RowsAt.bd h e xs b o h3
  | .own e xs k, u, hv => by
    simp only [VRep] at hv; simp only [V.bd]
    obtain ⟨a, c, _, _, h3, m, h4, _⟩ := hv
    refine ⟨?_, ?_⟩
    · rcases h3 with rfl | ⟨b, o, _, h3⟩
      · simp [bdR]
      · exact RowsAt.bd h e xs b o h3
    · apply Nat.lt_of_not_le
      intro hn
      rw [h.dead k hn] at h4
      cases h4
  | .msl k o len cap e, u, hv => by simp only [VRep] at hv; simp only [V.bd]; exact is_lt h hv.1
  | .gsl k ver q len e, u, hv => by
    simp only [VRep] at hv; simp only [V.bd]
    obtain ⟨a, c, v', e0, rows, _, _, h2, _⟩ := hv
    exact Nat.lt_of_not_le fun hn => by rw [h.dead k hn] at h2; cases h2
  | .gref k ver o, u, hv => by
    simp only [VRep] at hv; simp only [V.bd]
    obtain ⟨ad, v', e, rows, _, h2, _⟩ := hv
    exact Nat.lt_of_not_le fun hn => by rw [h.dead k hn] at h2; cases h2
  | .fn f cap, u, hv => by simp only [VRep] at hv; obtain ⟨us, _, h2⟩ := hv; simp only [V.bd]; exact RowRep.bd h cap us h2
  | .agg cs, u, hv => by simp only [VRep] at hv; obtain ⟨us, _, h2, _⟩ := hv; simp only [V.bd]; exact RowRep.bd h cs us h2
  | .tup cs, u, hv => by simp only [VRep] at hv; obtain ⟨us, _, h2⟩ := hv; simp only [V.bd]; exact RowRep.bd h cs us h2
theorem RowRep.bd {n : Nat} {X : Ctx} (h : R n X) : ∀ (vs : List V) (us : List Value), RowRep X vs us → bdL n vs
  | [], us, hv => by simp [bdL]
  | v :: vs, us, hv => by
    simp only [RowRep] at hv; simp only [bdL]
    obtain ⟨u, us', _, h2, h3⟩ := hv
    exact ⟨VRep.bd h v u h2, RowRep.bd h vs us' h3⟩
theorem CellsAt.bd {n : Nat} {X : Ctx} (h : R n X) : ∀ (vs : List V) (b o : Nat), CellsAt X vs b o → bdL n vs
  | [], b, o, hv => by simp [bdL]
  | v :: vs, b, o, hv => by
    simp only [CellsAt] at hv; simp only [bdL]
    obtain ⟨⟨u, _, h2, _, _⟩, h4⟩ := hv
    exact ⟨VRep.bd h v u h2, CellsAt.bd h vs b (o + 1) h4⟩
theorem RowsAt.bd {n : Nat} {X : Ctx} (h : R n X) (e : Nat) : ∀ (vs : List (List V)) (b o : Nat), RowsAt X e vs b o → bdR n vs
  | [], b, o, hv => by simp [bdR]
  | r :: rs, b, o, hv => by
    simp only [RowsAt] at hv; simp only [bdR]
    exact ⟨CellsAt.bd h r b o hv.2.1, RowsAt.bd h e rs b (o + e) hv.2.2⟩
end
/-- Entries of one kind. -/
def SameK (b b' : Box) : Prop := (b.is → b'.is) ∧ (∀ m, b = .tail m → b' = .tail m) ∧ ∀ v e rows, b = .gcells v e rows → ∃ rows', b' = .gcells v e rows'
theorem SameK.refl (b : Box) : SameK b b := ⟨id, fun _ h => h, fun v e rows h => ⟨rows, h⟩⟩
section
variable {X X' : Ctx} {n : Nat}
mutual
theorem VRep.cut (hO : X'.O = X.O) (hb : X'.bl = X.bl) (hw : X'.w = X.w) (h : ∀ k, k < n → SameK (X.bx k) (X'.bx k)) : ∀ (v : V) (u : Value), v.bd n → VRep X v u → VRep X' v u
  | .junk, _, _, _ => by simp [VRep]
  | .sc v, u, _, hv => by simpa [VRep] using hv
  | .ref k o, u, hn, hv => by simp only [V.bd] at hn; simp only [VRep] at hv ⊢; rw [hb]; exact ⟨(h k hn).1 hv.1, hv.2⟩
  | .ro row, u, hn, hv => by
    simp only [V.bd] at hn; simp only [VRep] at hv ⊢
    obtain ⟨b, o, h1, h2⟩ := hv
    exact ⟨b, o, h1, CellsAt.cut hO hb hw h row b o hn h2⟩
  | .sl e xs, u, hn, hv => by
    simp only [V.bd] at hn; simp only [VRep] at hv ⊢
    obtain ⟨a, c, h1, h2, h3⟩ := hv
    exact ⟨a, c, h1, h2, h3.imp id fun ⟨b, o, h4, h5⟩ => ⟨b, o, h4, RowsAt.cut hO hb hw h e xs b o hn h5⟩⟩
  | .fl e xs, u, hn, hv => by
    simp only [V.bd] at hn; simp only [VRep] at hv ⊢
    obtain ⟨a, h1, h3⟩ := hv
    exact ⟨a, h1, h3.imp id fun ⟨b, o, h4, h5⟩ => ⟨b, o, h4, RowsAt.cut hO hb hw h e xs b o hn h5⟩⟩
  | .own e xs k, u, hn, hv => by
    simp only [V.bd] at hn; simp only [VRep] at hv ⊢
    obtain ⟨a, c, h1, h2, h3, m, h6, h7, h8⟩ := hv
    refine ⟨a, c, h1, h2, h3.imp id fun ⟨b, o, h4, h5⟩ => ⟨b, o, h4, RowsAt.cut hO hb hw h e xs b o hn.1 h5⟩, m, (h k hn.2).2.1 m h6, h7, ?_⟩
    rw [hO, hw]
    exact h8
  | .msl k o len cap e, u, hn, hv => by simp only [V.bd] at hn; simp only [VRep] at hv ⊢; rw [hb]; exact ⟨(h k hn).1 hv.1, hv.2⟩
  | .gsl k ver q len e, u, hn, hv => by
    simp only [V.bd] at hn; simp only [VRep] at hv ⊢
    obtain ⟨a, c, v', e0, rows, h1, h0, h2, h3, h4⟩ := hv
    obtain ⟨rows', g1⟩ := (h k hn).2.2 v' e0 rows h2
    refine ⟨a, c, v', e0, rows', h1, h0, g1, h3, ?_⟩
    rw [hO, hb, hw]; exact h4
  | .gref k ver o, u, hn, hv => by
    simp only [V.bd] at hn; simp only [VRep] at hv ⊢
    obtain ⟨ad, v', e, rows, h1, h2, h3, h4⟩ := hv
    obtain ⟨rows', g1⟩ := (h k hn).2.2 v' e rows h2
    refine ⟨ad, v', e, rows', h1, g1, h3, ?_⟩
    rw [hb]; exact h4
  | .fn f cap, u, hn, hv => by simp only [V.bd] at hn; simp only [VRep] at hv ⊢; obtain ⟨us, h1, h2⟩ := hv; exact ⟨us, h1, RowRep.cut hO hb hw h cap us hn h2⟩
  | .agg cs, u, hn, hv => by simp only [V.bd] at hn; simp only [VRep] at hv ⊢; obtain ⟨us, h1, h2, h3⟩ := hv; exact ⟨us, h1, RowRep.cut hO hb hw h cs us hn h2, h3⟩
  | .tup cs, u, hn, hv => by simp only [V.bd] at hn; simp only [VRep] at hv ⊢; obtain ⟨us, h1, h2⟩ := hv; exact ⟨us, h1, RowRep.cut hO hb hw h cs us hn h2⟩
theorem RowRep.cut (hO : X'.O = X.O) (hb : X'.bl = X.bl) (hw : X'.w = X.w) (h : ∀ k, k < n → SameK (X.bx k) (X'.bx k)) : ∀ (vs : List V) (us : List Value), bdL n vs → RowRep X vs us → RowRep X' vs us
  | [], us, hn, hv => by simpa [RowRep] using hv
  | v :: vs, us, hn, hv => by
    simp only [bdL] at hn; simp only [RowRep] at hv ⊢
    obtain ⟨u, us', h1, h2, h3⟩ := hv
    exact ⟨u, us', h1, VRep.cut hO hb hw h v u hn.1 h2, RowRep.cut hO hb hw h vs us' hn.2 h3⟩
theorem CellsAt.cut (hO : X'.O = X.O) (hb : X'.bl = X.bl) (hw : X'.w = X.w) (h : ∀ k, k < n → SameK (X.bx k) (X'.bx k)) : ∀ (vs : List V) (b o : Nat), bdL n vs → CellsAt X vs b o → CellsAt X' vs b o
  | [], b, o, hn, hv => by simp [CellsAt]
  | v :: vs, b, o, hn, hv => by
    simp only [bdL] at hn; simp only [CellsAt] at hv ⊢
    obtain ⟨⟨u, h1, h2, h3, h5⟩, h4⟩ := hv
    exact ⟨⟨u, by rw [hw]; exact h1, VRep.cut hO hb hw h v u hn.1 h2, by rw [hO]; exact h3, h5⟩, CellsAt.cut hO hb hw h vs b (o + 1) hn.2 h4⟩
theorem RowsAt.cut (hO : X'.O = X.O) (hb : X'.bl = X.bl) (hw : X'.w = X.w) (h : ∀ k, k < n → SameK (X.bx k) (X'.bx k)) (e : Nat) : ∀ (vs : List (List V)) (b o : Nat), bdR n vs → RowsAt X e vs b o → RowsAt X' e vs b o
  | [], b, o, hn, hv => by simp [RowsAt]
  | r :: rs, b, o, hn, hv => by
    simp only [bdR] at hn; simp only [RowsAt] at hv ⊢
    exact ⟨hv.1, CellsAt.cut hO hb hw h r b o hn.1 hv.2.1, RowsAt.cut hO hb hw h e rs b (o + e) hn.2 hv.2.2⟩
end
end

/-- A function's state: what its temporaries hold, and the entries (from n on there are none). -/
structure S where
  t : Nat → V
  n : Nat
  bx : Nat → Box
/-- Where a function began, what it has deferred, what else it may leave as it returns; a round of a range over a function: of which loop. -/
structure Bas where
  c : Ctx
  d : List Deferred
  esc : Act → World → Prop
  R : Option Nat
  mks : Bool
def base (X : Ctx) : Bas := ⟨X, [], fun _ _ => False, none, true⟩
/-- The mark that a range over a function leaves among the deferred calls. -/
def markD (D : Nat) : Deferred := { target := .collected D, args := #[] }
def Marks (B : Bas) (X : Ctx) (a : Act) : Prop := ∃ ms : List Nat, (B.mks = false → ms = []) ∧ ms.Nodup ∧ a.defers = ms.map markD ++ B.d ∧ ∀ D ∈ ms, B.c.O D = .free ∧ X.O D = .frz ∧ X.w.heap[D]? = some (.deferred (some []))
theorem Marks.mono {B : Bas} {X X' : Ctx} {a a' : Act} (h : Marks B X a) (he : Ext X X') (hd : a'.defers = a.defers) : Marks B X' a' := by
  obtain ⟨ms, h1, h2, h3, h4⟩ := h
  refine ⟨ms, h1, h2, hd.trans h3, fun D hD => ?_⟩
  obtain ⟨g1, g2, g3⟩ := h4 D hD
  obtain ⟨k1, k2⟩ := he.frz D g2
  exact ⟨g1, k1, k2.trans g3⟩
theorem Marks.none {B : Bas} {X : Ctx} {a : Act} (h : Marks B X a) (hm : B.mks = false) : a.defers = B.d := by
  obtain ⟨ms, h1, _, h3, _⟩ := h
  rw [h1 hm] at h3; exact h3
theorem Marks.nil {B : Bas} {X : Ctx} {a : Act} (h : a.defers = B.d) : Marks B X a := ⟨[], fun _ => rfl, List.nodup_nil, h, fun D hD => by cases hD⟩
def fen (r : Option Nat) : Fence := { Fence.wide with round := r }
theorem put_defers (a : Act) (d : Option Tmp) (v : Value) : (a.put d v).defers = a.defers := by cases d <;> rfl
structure St (B : Bas) (N : Nat) (s : S) (X : Ctx) (a : Act) : Prop where
  rr : R s.n X
  bx : X.bx = s.bx
  t : ∀ i, VRep X (s.t i) (a.tmps.getD i undef)
  N : a.tmps.size = N
  defers : Marks B X a
  ext : Ext B.c X
def post (B : Bas) (N : Nat) (Q : Exit → S → Prop) : Exit → Act → World → Prop := fun e a w => (∃ s X, Q e s ∧ X.w = w ∧ St B N s X a) ∨ (e = .ret ∧ B.esc a w)
def Runs (P : Program) (B : Bas) (N : Nat) (c : Code) (s : S) (Q : Exit → S → Prop) : Prop := ∀ X a, St B N s X a → c.wpIn (fen B.R) 0 P (post B N Q) a X.w
def thenS (K : S → Prop) (Q : Exit → S → Prop) : Exit → S → Prop
  | .normal, s => K s
  | e, s => Q e s
def inBlockS (id : Nat) (Q : Exit → S → Prop) : Exit → S → Prop
  | .exit id', s => match Nat.beq id' id with
    | true => Q .normal s
    | false => Q (.exit id') s
  | e, s => Q e s
def ev (t : Nat → V) : Operand → V
  | .tmp i => t i
  | .const v => .sc v
  | .func f => .sc (.func (.func f) #[] #[])
  | .global g => .sc (.pointer (some ⟨g, 0, none⟩))
section
variable {P : Program} {B : Bas} {N : Nat} {s : S} {Q Q' : Exit → S → Prop}
theorem ev_rep {X : Ctx} {a : Act} {t : Nat → V} (h : ∀ i, VRep X (t i) (a.tmps.getD i undef)) (x : Operand) : VRep X (ev t x) (a.eval x) := by
  cases x with
  | tmp i => exact h i
  | const v => simp [ev, Act.eval, VRep]
  | func f => simp [ev, Act.eval, VRep]
  | global g => simp [ev, Act.eval, VRep]
theorem Runs.mono {c : Code} (h : Runs P B N c s Q) (hq : ∀ e s', Q e s' → Q' e s') : Runs P B N c s Q' :=
  fun X a hs => wpIn_mono (h X a hs) fun e a' w' h => h.imp (fun ⟨s', X', h1, h2, h3⟩ => ⟨s', X', hq e s' h1, h2, h3⟩) id
theorem runs_skip (h : Q .normal s) : Runs P B N .skip s Q := fun X a hs => wpIn_skip (.inl ⟨s, X, h, rfl, hs⟩)
theorem runs_ret (h : Q .ret s) : Runs P B N .ret s Q := fun X a hs => wpIn_ret (.inl ⟨s, X, h, rfl, hs⟩)
theorem runs_exit {id : Nat} (h : Q (.exit id) s) : Runs P B N (.exit id) s Q := fun X a hs => wpIn_exit (.inl ⟨s, X, h, rfl, hs⟩)
theorem runs_seq {x y : Code} (h : Runs P B N x s (thenS (fun s' => Runs P B N y s' Q) Q)) : Runs P B N (.seq x y) s Q := by
  intro X a hs
  refine wpIn_seq (wpIn_mono (h X a hs) ?_)
  rintro e a' w' (⟨s', X', h1, rfl, h3⟩ | ⟨rfl, hE⟩)
  · cases e with
    | normal => exact h1 X' a' h3
    | _ => exact .inl ⟨s', X', h1, rfl, h3⟩
  · exact .inr ⟨rfl, hE⟩
theorem runs_block {id : Nat} {c : Code} (h : Runs P B N c s (inBlockS id Q)) : Runs P B N (.block id c) s Q := by
  intro X a hs
  refine wpIn_block (wpIn_mono (h X a hs) ?_)
  rintro e a' w' (⟨s', X', h1, rfl, h3⟩ | ⟨rfl, hE⟩)
  rotate_left
  · exact .inr ⟨rfl, hE⟩
  cases e with
  | exit id' =>
    simp only [Exit.inBlock]
    simp only [inBlockS] at h1
    split
    · rename_i hid; subst hid; rw [show Nat.beq id' id' = true from Nat.beq_refl id'] at h1; exact .inl ⟨s', X', h1, rfl, h3⟩
    · rename_i hid
      have hb : Nat.beq id' id = false := by
        cases h : Nat.beq id' id with
        | false => rfl
        | true => exact absurd (Nat.eq_of_beq_eq_true h) hid
      rw [hb] at h1; exact .inl ⟨s', X', h1, rfl, h3⟩
  | _ => exact .inl ⟨s', X', h1, rfl, h3⟩
theorem runs_cond {c : Operand} {x y : Code} (b : Bool) (hc : ev s.t c = .sc (.bool b)) (h1 : b = true → Runs P B N x s Q) (h2 : b = false → Runs P B N y s Q) : Runs P B N (.cond c x y) s Q := by
  intro X a hs
  have hv := ev_rep hs.t c
  rw [hc] at hv
  simp only [VRep] at hv
  exact wpIn_cond_split hv (fun h => h1 h X a hs) (fun h => h2 h X a hs)
/-- What may be told less of. -/
def VLe (v v' : V) : Prop := ∀ X u, VRep X v u → VRep X v' u
theorem VLe.refl (v : V) : VLe v v := fun _ _ h => h
theorem VLe.junk (v : V) : VLe v .junk := fun _ _ _ => by simp [VRep]
inductive VLes : List V → List V → Prop
  | nil : VLes [] []
  | cons {v v' : V} {vs vs' : List V} (h : VLe v v') (t : VLes vs vs') : VLes (v :: vs) (v' :: vs')
theorem VLes.row {X : Ctx} {vs vs' : List V} (h : VLes vs vs') : ∀ {us : List Value}, RowRep X vs us → RowRep X vs' us := by
  induction h with
  | nil => intro us h; exact h
  | cons h _ ih =>
    intro us hr
    simp only [RowRep] at hr ⊢
    obtain ⟨u, us', rfl, h1, h2⟩ := hr
    exact ⟨u, us', rfl, h _ _ h1, ih h2⟩
theorem VLes.length {vs vs' : List V} (h : VLes vs vs') : vs.length = vs'.length := by induction h <;> simp_all
inductive VLess : List (List V) → List (List V) → Prop
  | nil : VLess [] []
  | cons {v v' : List V} {vs vs' : List (List V)} (h : VLes v v') (t : VLess vs vs') : VLess (v :: vs) (v' :: vs')
theorem VLes.append {a b c d : List V} (h : VLes a b) (g : VLes c d) : VLes (a ++ c) (b ++ d) := by
  induction h with
  | nil => exact g
  | cons h _ ih => exact .cons h ih
theorem VLess.flat {a b : List (List V)} (h : VLess a b) : VLes a.flatten b.flatten := by
  induction h with
  | nil => exact .nil
  | cons h _ ih => exact h.append ih
theorem VLess.length {vs vs' : List (List V)} (h : VLess vs vs') : vs.length = vs'.length := by induction h <;> simp_all
theorem VLess.lens {e : Nat} {vs vs' : List (List V)} (h : VLess vs vs') : (∀ r ∈ vs, r.length = e) → ∀ r ∈ vs', r.length = e := by
  induction h with
  | nil => intro h; exact h
  | cons h _ ih =>
    intro h2 r hr
    rcases List.mem_cons.1 hr with rfl | hr
    · rw [← h.length]; exact h2 _ (List.mem_cons_self ..)
    · exact ih (fun r hr => h2 r (List.mem_cons_of_mem _ hr)) r hr
/-- What an entry holds, told less of. -/
def BoxLe (b b' : Box) : Prop := b = b' ∨ (∃ cs cs', b = .cells cs ∧ b' = .cells cs' ∧ VLes cs cs') ∨ ∃ v e rows rows', b = .gcells v e rows ∧ b' = .gcells v e rows' ∧ (VLess rows rows' ∨ rows' = [])
theorem BoxLe.same {b b' : Box} (h : BoxLe b b') : SameK b b' := by
  rcases h with rfl | ⟨cs, cs', rfl, rfl, _⟩ | ⟨v, e, rows, rows', rfl, rfl, _⟩
  · exact SameK.refl _
  · exact ⟨fun _ => trivial, (fun m h => by cases h), fun v e rows h => by cases h⟩
  · exact ⟨fun h => h.elim, (fun m h => by cases h), fun v e rows h => by cases h; exact ⟨rows', rfl⟩⟩
theorem runs_weak {c : Code} {t' : Nat → V} {n' : Nat} (ht : ∀ i, VLe (s.t i) (t' i)) (hn : s.n ≤ n') (h : Runs P B N c ⟨t', n', s.bx⟩ Q) : Runs P B N c s Q := by
  intro X a hs
  exact h X a ⟨hs.rr.bump hn, hs.bx, fun i => ht i X _ (hs.t i), hs.N, hs.defers, hs.ext⟩
/-- A state told less of. -/
def SLe (s s' : S) : Prop := (∀ i, VLe (s.t i) (s'.t i)) ∧ s.n ≤ s'.n ∧ s.bx = s'.bx
theorem SLe.st {s s' : S} {X : Ctx} {a : Act} (h : SLe s s') (hs : St B N s X a) : St B N s' X a :=
  ⟨hs.rr.bump h.2.1, hs.bx.trans h.2.2, fun i => h.1 i X _ (hs.t i), hs.N, hs.defers, hs.ext⟩
/-- A loop: what holds at its head, with a number that falls from round to round. -/
theorem runs_loop {c : Code} (I : Nat → S → Prop) (i : Nat) (h0 : ∃ s', SLe s s' ∧ I i s')
    (round : ∀ i s, I i s → Runs P B N c s (thenS (fun s' => ∃ s'' j, j < i ∧ SLe s' s'' ∧ I j s'') Q)) : Runs P B N (.loop c) s Q := by
  intro X a hs
  obtain ⟨s0, hle, hI⟩ := h0
  refine wpIn_loop_ghost (fun i a w => ∃ s X, I i s ∧ X.w = w ∧ St B N s X a) i ⟨s0, X, hI, rfl, hle.st hs⟩ ?_
  rintro i a w ⟨s1, X1, h1, rfl, h2⟩
  refine wpIn_mono (round i s1 h1 X1 a h2) ?_
  rintro e a' w' (⟨s', X', h3, rfl, h4⟩ | ⟨rfl, hE⟩)
  · cases e with
    | normal => obtain ⟨s'', j, h5, h6, h7⟩ := h3; exact ⟨j, h5, s'', X', h7, rfl, h6.st h4⟩
    | _ => exact .inl ⟨s', X', h3, rfl, h4⟩
  · exact .inr ⟨rfl, hE⟩

/-! ### Operations -/
/-- What an operation comes to where its operands are as told, and some entries: it sets entries, and its answer. -/
def StepOK (P : Program) (o : Oper) (t : Nat → V) (pre up : List (Nat × Box)) (val : V) : Prop :=
  ∀ n X a next Q, R n X → (∀ x ∈ o.op.operands, VRep X (ev t x) (a.eval x)) → (∀ p ∈ pre, X.bx p.1 = p.2) → (∀ p ∈ up, p.1 < n) →
    (∀ X' u, X'.bx = upds X.bx up → R n X' → Ext X X' → VRep X' val u → next (a.put o.dst u) X'.w) → o.wp P a X.w next Q
/-- What an operation does, it does in a round as well. -/
theorem wpIn_of_wp {P : Program} {o : Oper} {a : Act} {w : World} {next : Act → World → Prop} {Q : Exit → Act → World → Prop} (r : Option Nat) (hd : r = none ∨ ∀ c, o.op ≠ .defer c) (h : o.wp P a w next Q) : o.wpIn (fen r) 0 P a w next Q := by
  have hsem : o.semAt (fen r).round a.eval = execOp a.eval o := by
    rcases hd with rfl | hd
    · exact Oper.semAt_none _ _
    · cases r with
      | none => exact Oper.semAt_none _ _
      | some l => exact Oper.semAt_some l _ _ hd
  refine ⟨fun _ _ => trivial, ?_⟩
  rw [hsem]
  unfold Oper.wp at h
  generalize (execOp a.eval o).run P w = res at h ⊢
  have hdep : (fen r).depth.isSome = true → 1 ≤ 0 := fun h => by cases h
  cases res with
  | ok nx w' =>
    cases nx with
    | value v => exact h
    | skip => exact h
    | defer d => exact h
    | enter f args => exact ⟨hdep, (callsIn_wide (n := 0 - 1)).2 h⟩
    | row row args => exact ⟨hdep, fun c cs _ => by obtain ⟨v, w2, h1, h2⟩ := h c cs; exact ⟨v, w2, h1, stepsIn_wide.2 h2⟩⟩
    | _ => exact h.elim
  | halt hv w' =>
    cases hv with
    | panic v => exact h
    | _ => exact h.elim
theorem StepOK.nodefer {P : Program} {o : Oper} {t : Nat → V} {pre up : List (Nat × Box)} {val : V} {n : Nat} {X : Ctx} {a : Act} (h : StepOK P o t pre up val) (hR : R n X) (hop : ∀ x ∈ o.op.operands, VRep X (ev t x) (a.eval x)) (hpre : ∀ p ∈ pre, X.bx p.1 = p.2) (hup : ∀ p ∈ up, p.1 < n) : ∀ c, o.op ≠ .defer c := by
  intro c hc
  have h1 := h n X a (fun a' _ => a'.defers = a.defers) (fun _ _ _ => False) hR hop hpre hup (fun _ _ _ _ _ _ => put_defers _ _ _)
  unfold Oper.wp at h1
  rw [show execOp a.eval o = (do let d ← resolve a.eval c o.type; pure (.defer d) : Sem Next) by unfold execOp; rw [hc]] at h1
  rw [Sem.run_bind] at h1
  cases hr : (resolve a.eval c o.type).run P X.w with
  | ok d w' =>
    rw [hr] at h1
    simp only [Result.andThen, Sem.run_pure, Oper.upon, put_defers] at h1
    have := congrArg List.length h1
    simp at this
  | halt hv w' =>
    rw [hr] at h1
    simp only [Result.andThen] at h1
    cases hv <;> exact h1.elim
theorem StepOK.wpIn {P : Program} {o : Oper} {t : Nat → V} {pre up : List (Nat × Box)} {val : V} {n : Nat} {X : Ctx} {a : Act} {next : Act → World → Prop} {Q : Exit → Act → World → Prop} (r : Option Nat) (h : StepOK P o t pre up val) (hR : R n X) (hop : ∀ x ∈ o.op.operands, VRep X (ev t x) (a.eval x)) (hpre : ∀ p ∈ pre, X.bx p.1 = p.2) (hup : ∀ p ∈ up, p.1 < n)
    (hk : ∀ X' u, X'.bx = upds X.bx up → R n X' → Ext X X' → VRep X' val u → next (a.put o.dst u) X'.w) : o.wpIn (fen r) 0 P a X.w next Q :=
  wpIn_of_wp r (.inr (h.nodefer hR hop hpre hup)) (h n X a next Q hR hop hpre hup hk)
def putS (t : Nat → V) (d : Option Tmp) (v : V) : Nat → V :=
  match d with
  | some d => upd t d v
  | none => t
def okDst (N : Nat) : Option Tmp → Bool
  | some d => Nat.blt d N
  | none => true
theorem St.put {X X' : Ctx} {a : Act} {v : V} {u : Value} {up : List (Nat × Box)} {n' : Nat} {dst : Option Tmp} (hs : St B N s X a) (hd : okDst N dst = true) (hR : R n' X') (hb : X'.bx = upds X.bx up) (he : Ext X X') (hv : VRep X' v u) :
    St B N ⟨putS s.t dst v, n', upds s.bx up⟩ X' (a.put dst u) := by
  refine ⟨hR, by rw [hb, hs.bx], fun i => ?_, ?_, ?_, hs.ext.trans he⟩
  · cases dst with
    | none => exact VRep.mono he _ _ (hs.t i)
    | some d =>
      have hd' : d < a.tmps.size := by rw [hs.N]; exact Nat.blt_eq ▸ (by simpa [okDst] using hd)
      simp only [putS, Act.put]
      by_cases hi : i = d
      · subst hi
        rw [upd_eq]
        simpa [hd'] using hv
      · rw [upd_ne _ _ _ _ hi]
        have := VRep.mono he _ _ (hs.t i)
        simpa [Array.getElem?_setIfInBounds_ne (Ne.symm hi)] using this
  · cases dst <;> simp [Act.put, hs.N]
  · exact hs.defers.mono he (put_defers _ _ _)
def RunsL (P : Program) (B : Bas) (N : Nat) (ops : Array Oper) (l : List Oper) (s : S) (Q : Exit → S → Prop) : Prop := ∀ X a, St B N s X a → wpListIn (fen B.R) 0 P ops (post B N Q) l a X.w
variable {ops : Array Oper} {l : List Oper} {o : Oper}
theorem runsL_nil (h : Q .normal s) : RunsL P B N ops [] s Q := fun X a hs => wpListIn_nil (.inl ⟨s, X, h, rfl, hs⟩)
theorem runs_region {id : Nat} (h : RunsL P B N ops ops.toList s Q) : Runs P B N (.region id ops false) s Q := fun X a hs => wpIn_region_list (h X a hs)
theorem runsL_cons {pre up : List (Nat × Box)} {val : V} (hg : o.guard = none) (hs : StepOK P o s.t pre up val) (hpre : ∀ p ∈ pre, s.bx p.1 = p.2) (hup : ∀ p ∈ up, p.1 < s.n) (hd : okDst N o.dst = true)
    (h : RunsL P B N ops l ⟨putS s.t o.dst val, s.n, upds s.bx up⟩ Q) : RunsL P B N ops (o :: l) s Q := by
  intro X a hst
  refine wpListIn_plain hg fun K hK => ?_
  refine hs.wpIn B.R hst.rr (fun x _ => ev_rep hst.t x) (fun p hp => by rw [hst.bx]; exact hpre p hp) hup ?_
  intro X' u hb hR he hv
  exact hK _ _ (h X' _ (hst.put hd hR hb he hv))
/-- A guarded operation. -/
theorem runsL_guard {pre up : List (Nat × Box)} {val : V} {j : Nat} {wt b : Bool} {g : Oper} {d : Tmp} (hg : o.guard = some (j, wt)) (hj : ops[j]? = some g) (hgd : g.dst = some d) (hb : s.t d = .sc (.bool b)) (hdN : Nat.blt d N = true) (hwt : (b == wt) = true)
    (hs : StepOK P o s.t pre up val) (hpre : ∀ p ∈ pre, s.bx p.1 = p.2) (hup : ∀ p ∈ up, p.1 < s.n) (hd : okDst N o.dst = true)
    (h : RunsL P B N ops l ⟨putS s.t o.dst val, s.n, upds s.bx up⟩ Q) : RunsL P B N ops (o :: l) s Q := by
  intro X a hst
  have hv := hst.t d
  rw [hb] at hv
  simp only [VRep] at hv
  have hdN' : d < a.tmps.size := by rw [hst.N]; exact Nat.blt_eq ▸ (by simpa using hdN)
  have hy : yielded ops a.tmps j = some b := by
    have e1 : a.tmps[d]? = some (.bool b) := by
      rw [Array.getElem?_eq_getElem hdN'] 
      have : a.tmps.getD d undef = a.tmps[d] := by simp [hdN']
      rw [← this, hv]
    simp [yielded, hj, hgd, e1]
  have hw : Region.wanted o (yielded ops a.tmps) = true := by
    simp only [Region.wanted, hg, hy]
    cases b <;> cases wt <;> simp_all
  refine wpListIn_step fun K hK => ?_
  rw [if_pos hw]
  refine hs.wpIn B.R hst.rr (fun x _ => ev_rep hst.t x) (fun p hp => by rw [hst.bx]; exact hpre p hp) hup ?_
  intro X' u hb hR he hv
  exact hK _ _ (h X' _ (hst.put hd hR hb he hv))
/-- What a guard's temporary holds, if the operation is not to run. -/
def NoGuard (v : V) (wt : Bool) : Prop := (∃ b, v = .sc (.bool b) ∧ (b == wt) = false) ∨ v = .sc undef
theorem NoGuard.wanted {X : Ctx} {v : V} {u : Value} {wt : Bool} (h : NoGuard v wt) (hv : VRep X v u) : (match some u with | some (.bool b) => some b | _ => none) ≠ some wt := by
  rcases h with ⟨b, rfl, hb⟩ | rfl
  · simp only [VRep] at hv; subst hv; intro e; cases e; simp at hb
  · simp only [VRep] at hv; subst hv; intro e; cases e
theorem runsL_skip {j : Nat} {wt : Bool} {g : Oper} {d : Tmp} (hg : o.guard = some (j, wt)) (hj : ops[j]? = some g) (hgd : g.dst = some d) (hb : NoGuard (s.t d) wt) (hdN : Nat.blt d N = true)
    (hd : okDst N o.dst = true) (h : RunsL P B N ops l ⟨putS s.t o.dst (.sc undef), s.n, s.bx⟩ Q) : RunsL P B N ops (o :: l) s Q := by
  intro X a hst
  have hv := hst.t d
  have hdN' : d < a.tmps.size := by rw [hst.N]; exact Nat.blt_eq ▸ (by simpa using hdN)
  have e1 : a.tmps[d]? = some (a.tmps.getD d undef) := by
    rw [Array.getElem?_eq_getElem hdN']
    have : a.tmps.getD d undef = a.tmps[d] := by simp [hdN']
    rw [this]
  have hy : yielded ops a.tmps j ≠ some wt := by
    have := hb.wanted hv
    simp only [yielded, hj, hgd, Option.bind_some, e1]
    exact this
  have hw : ¬ Region.wanted o (yielded ops a.tmps) = true := by
    simp only [Region.wanted, hg]
    simpa using hy
  refine wpListIn_step fun K hK => ?_
  rw [if_neg hw]
  refine ⟨fun _ _ => trivial, hK _ _ (h X _ ?_)⟩
  exact hst.put (up := []) hd hst.rr rfl (Ext.refl X) (by simp [VRep])
end

/-! ### Functions -/
/-- What a function answers, and what it sets. -/
def Does (P : Program) (f : FuncId) (vs : List V) (pre up : List (Nat × Box)) (r : V) : Prop :=
  ∀ n X (args : Array Value), R n X → RowRep X vs args.toList → (∀ p ∈ pre, X.bx p.1 = p.2) → (∀ p ∈ up, p.1 < n) →
    Calls P f args X.w fun e w' => ∃ X' u, e = .returned u ∧ VRep X' r u ∧ X'.bx = upds X.bx up ∧ R n X' ∧ Ext X X' ∧ X'.w = w'
end Go.Vm

