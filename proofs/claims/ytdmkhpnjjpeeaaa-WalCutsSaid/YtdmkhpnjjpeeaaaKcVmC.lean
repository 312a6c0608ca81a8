import Derived.Test.YtdmkhpnjjpeeaaaKcQq
import Derived.Orders
import Derived.Tactics
import Derived.Below
import Derived.RangeFuncOwn
import Derived.TacticsIn
import Derived.OrdersIn
import Derived.Sort.LoopGhostIn
import Derived.Laws.Rows
import Derived.Laws.Sem
import Derived.RangeFuncRecord
set_option linter.unusedVariables false
set_option linter.unusedSimpArgs false
namespace Go.Vm
inductive V where
  | junk
  | sc (v : Value)
  | ref (k o : Nat)
  | ro (row : List V)
  | sl (e : Nat) (xs : List (List V))
  | fl (e : Nat) (xs : List (List V))
  | own (e : Nat) (xs : List (List V)) (k : Nat)
  | msl (k o len cap e : Nat)
  | fn (f : FuncId) (cap : List V)
  | gsl (k ver q len e : Nat)
  | gref (k ver o : Nat)
  | agg (cs : List V)
  | tup (vs : List V)
  deriving Inhabited
inductive Box where
  | dead
  | cells (cs : List V)
  | tail (n : Nat)
  | gcells (ver e : Nat) (rows : List (List V))
  | obj (o : Obj)
  deriving Inhabited
inductive Own where
  | free
  | frz
  | box (k : Nat)
  | grow (k st : Nat)
def oneV : Value → Bool
  | .agg _ => false
  | .tuple _ => false
  | _ => true
structure Ctx where
  O : Nat → Own
  bl : Nat → Nat
  bx : Nat → Box
  w : World
def Stb : Own → Nat → Prop
  | .frz, _ => True
  | .grow _ st, o => o < st
  | _, _ => False
def Box.is : Box → Prop
  | .cells _ => True
  | .obj _ => True
  | _ => False
mutual
def VRep (X : Ctx) : V → Value → Prop
  | .junk, _ => True
  | .sc v, u => u = v
  | .ref k o, u => (X.bx k).is ∧ u = .pointer (some ⟨X.bl k, o, none⟩)
  | .ro row, u => ∃ b o, u = .pointer (some ⟨b, o, none⟩) ∧ CellsAt X row b o
  | .sl e xs, u => ∃ a c, u = .slice a xs.length c ∧ xs.length ≤ c ∧ (xs = [] ∨ ∃ b o, a = some ⟨b, o, none⟩ ∧ RowsAt X e xs b o)
  | .fl e xs, u => ∃ a, u = .slice a xs.length xs.length ∧ (xs = [] ∨ ∃ b o, a = some ⟨b, o, none⟩ ∧ RowsAt X e xs b o)
  | .own e xs k, u => ∃ a c, u = .slice a xs.length c ∧ xs.length ≤ c ∧ (xs = [] ∨ ∃ b o, a = some ⟨b, o, none⟩ ∧ RowsAt X e xs b o) ∧
      ∃ n, X.bx k = .tail n ∧ xs.length ≤ n ∧ (xs.length = n → c = xs.length ∨ ∃ b o st arr ty, a = some ⟨b, o, none⟩ ∧ X.O b = .grow k st ∧ o + xs.length * e = st ∧ X.w.heap[b]? = some (.cells arr ty (0, 0)) ∧ o + c * e ≤ arr.size)
  | .msl k o len cap e, u => (X.bx k).is ∧ u = .slice (some ⟨X.bl k, o, none⟩) len cap
  | .fn f cap, u => ∃ us, u = .func (.func f) #[] us.toArray ∧ RowRep X cap us
  | .gsl k ver q len e, u => ∃ a c v' e0 rows, u = .slice a len c ∧ len ≤ c ∧ X.bx k = .gcells v' e0 rows ∧ ver ≤ v' ∧ (v' = ver → c = 0 ∨
      (a = some ⟨X.bl k, q * e, none⟩ ∧ X.O (X.bl k) = .box k ∧ ∃ us ty, X.w.heap[X.bl k]? = some (.cells us ty (0, 0)) ∧ (q + c) * e ≤ us.size))
  | .gref k ver o, u => ∃ ad v' e rows, u = .pointer (some ad) ∧ X.bx k = .gcells v' e rows ∧ ver ≤ v' ∧ (v' = ver → ad = ⟨X.bl k, o, none⟩)
  | .agg cs, u => ∃ us, u = .agg us.toArray ∧ RowRep X cs us ∧ ∀ x ∈ us, oneV x = true
  | .tup vs, u => ∃ us, u = .tuple us.toArray ∧ RowRep X vs us
def RowRep (X : Ctx) : List V → List Value → Prop
  | [], us => us = []
  | v :: vs, us => ∃ u us', us = u :: us' ∧ VRep X v u ∧ RowRep X vs us'
def CellsAt (X : Ctx) : List V → Nat → Nat → Prop
  | [], _, _ => True
  | v :: vs, b, o => (∃ u, X.w.cell? ⟨b, o, none⟩ = some u ∧ VRep X v u ∧ Stb (X.O b) o ∧ oneV u = true) ∧ CellsAt X vs b (o + 1)
def RowsAt (X : Ctx) (e : Nat) : List (List V) → Nat → Nat → Prop
  | [], _, _ => True
  | r :: rs, b, o => r.length = e ∧ CellsAt X r b o ∧ RowsAt X e rs b (o + e)
end
structure Ext (X X' : Ctx) : Prop where
  stb : ∀ b o, Stb (X.O b) o → Stb (X'.O b) o ∧ X'.w.cell? ⟨b, o, none⟩ = X.w.cell? ⟨b, o, none⟩
  box : ∀ k, (X.bx k).is → (X'.bx k).is ∧ X'.bl k = X.bl k
  tail : ∀ k m, X.bx k = .tail m → ∃ m', X'.bx k = .tail m' ∧ m ≤ m' ∧ (m' = m → ∀ b st arr ty, X.O b = .grow k st → X.w.heap[b]? = some (.cells arr ty (0, 0)) → X'.O b = .grow k st ∧ ∃ arr', X'.w.heap[b]? = some (.cells arr' ty (0, 0)) ∧ arr'.size = arr.size)
  frz : ∀ b, X.O b = .frz → X'.O b = .frz ∧ X'.w.heap[b]? = X.w.heap[b]?
  gc : ∀ k v e rows, X.bx k = .gcells v e rows → ∃ v' rows', X'.bx k = .gcells v' e rows' ∧ v ≤ v' ∧ (v' = v → X'.bl k = X.bl k ∧ (X.O (X.bl k) = .box k → X'.O (X.bl k) = .box k ∧ ∀ us ty, X.w.heap[X.bl k]? = some (.cells us ty (0, 0)) → ∃ us', X'.w.heap[X.bl k]? = some (.cells us' ty (0, 0)) ∧ us'.size = us.size))
  os : X'.w.os = X.w.os
  tape : X'.w.tape = X.w.tape
  output : X'.w.output = X.w.output
  size : X.w.heap.size ≤ X'.w.heap.size
theorem Ext.refl (X : Ctx) : Ext X X :=
  ⟨fun _ _ h => ⟨h, rfl⟩, fun _ h => ⟨h, rfl⟩, fun k m h => ⟨m, h, Nat.le_refl _, fun _ b st arr ty h1 h2 => ⟨h1, arr, h2, rfl⟩⟩, fun _ h => ⟨h, rfl⟩, fun k v e rows h => ⟨v, rows, h, Nat.le_refl _, fun _ => ⟨rfl, fun h => ⟨h, fun us ty h => ⟨us, h, rfl⟩⟩⟩⟩, rfl, rfl, rfl, Nat.le_refl _⟩
theorem Ext.trans {X Y Z : Ctx} (h : Ext X Y) (g : Ext Y Z) : Ext X Z where
  stb b o hs := ⟨(g.stb b o (h.stb b o hs).1).1, (g.stb b o (h.stb b o hs).1).2.trans (h.stb b o hs).2⟩
  box k hk := ⟨(g.box k (h.box k hk).1).1, (g.box k (h.box k hk).1).2.trans (h.box k hk).2⟩
  tail k m hk := by
    obtain ⟨m1, h1, h2, h3⟩ := h.tail k m hk
    obtain ⟨m2, g1, g2, g3⟩ := g.tail k m1 h1
    refine ⟨m2, g1, by omega, fun hm b st arr ty hO hh => ?_⟩;obtain ⟨h4, arr1, h5, h6⟩ := h3 (by omega) b st arr ty hO hh;obtain ⟨g4, arr2, g5, g6⟩ := g3 (by omega) b st arr1 ty h4 h5;exact ⟨g4, arr2, g5, g6.trans h6⟩
  frz b hb := ⟨(g.frz b (h.frz b hb).1).1, (g.frz b (h.frz b hb).1).2.trans (h.frz b hb).2⟩
  gc k v e rows hk := by
    obtain ⟨v1, r1, h1, h2, h3⟩ := h.gc k v e rows hk
    obtain ⟨v2, r2, g1, g2, g3⟩ := g.gc k v1 e r1 h1
    refine ⟨v2, r2, g1, Nat.le_trans h2 g2, fun hv => ?_⟩;obtain ⟨a1, a2⟩ := h3 (by omega);obtain ⟨b1, b2⟩ := g3 (by omega);rw [a1] at b1 b2;refine ⟨b1, fun hO => ?_⟩;obtain ⟨c1, c2⟩ := a2 hO;obtain ⟨d1, d2⟩ := b2 c1;refine ⟨d1, fun us ty hu => ?_⟩;obtain ⟨us1, e1, e2⟩ := c2 us ty hu;obtain ⟨us2, f1, f2⟩ := d2 us1 ty e1;exact ⟨us2, f1, f2.trans e2⟩
  os := g.os.trans h.os
  tape := g.tape.trans h.tape
  output := g.output.trans h.output
  size := Nat.le_trans h.size g.size
mutual
theorem VRep.mono {X X' : Ctx} (h : Ext X X') : ∀ (v : V) (u : Value), VRep X v u → VRep X' v u
  | .junk, _, _ => by simp [VRep]
  | .sc v, u, hv => by simpa [VRep] using hv
  | .ref k o, u, hv => by
    simp only [VRep] at hv ⊢
    rw [(h.box k hv.1).2]
    exact ⟨(h.box k hv.1).1, hv.2⟩
  | .ro row, u, hv => by
    simp only [VRep] at hv ⊢
    obtain ⟨b, o, h1, h2⟩ := hv
    exact ⟨b, o, h1, CellsAt.mono h row b o h2⟩
  | .sl e xs, u, hv => by
    simp only [VRep] at hv ⊢
    obtain ⟨a, c, h1, h2, h3⟩ := hv
    exact ⟨a, c, h1, h2, h3.imp id fun ⟨b, o, h4, h5⟩ => ⟨b, o, h4, RowsAt.mono h e xs b o h5⟩⟩
  | .fl e xs, u, hv => by
    simp only [VRep] at hv ⊢
    obtain ⟨a, h1, h3⟩ := hv
    exact ⟨a, h1, h3.imp id fun ⟨b, o, h4, h5⟩ => ⟨b, o, h4, RowsAt.mono h e xs b o h5⟩⟩
  | .own e xs k, u, hv => by
    simp only [VRep] at hv ⊢
    obtain ⟨a, c, h1, h2, h3, n, h6, h7, h8⟩ := hv
    obtain ⟨n', g1, g2, g3⟩ := h.tail k n h6
    refine ⟨a, c, h1, h2, h3.imp id fun ⟨b, o, h4, h5⟩ => ⟨b, o, h4, RowsAt.mono h e xs b o h5⟩, n', g1, by omega, fun hn => ?_⟩;refine (h8 (by omega)).imp id fun ⟨b, o, st, arr, ty, k1, k2, k3, k4, k5⟩ => ?_
    obtain ⟨j1, arr', j2, j3⟩ := g3 (by omega) b st arr ty k2 k4
    exact ⟨b, o, st, arr', ty, k1, j1, k3, j2, by omega⟩
  | .msl k o len cap e, u, hv => by
    simp only [VRep] at hv ⊢
    rw [(h.box k hv.1).2]
    exact ⟨(h.box k hv.1).1, hv.2⟩
  | .fn f cap, u, hv => by
    simp only [VRep] at hv ⊢
    obtain ⟨us, h1, h2⟩ := hv
    exact ⟨us, h1, RowRep.mono h cap us h2⟩
  | .gsl k ver q len e, u, hv => by
    simp only [VRep] at hv ⊢
    obtain ⟨a, c, v', e0, rows, h1, h0, h2, h3, h4⟩ := hv
    obtain ⟨v2, r2, g1, g2, g3⟩ := h.gc k v' e0 rows h2
    refine ⟨a, c, v2, e0, r2, h1, h0, g1, by omega, fun hv => ?_⟩;obtain ⟨b1, b2⟩ := g3 (by omega);refine (h4 (by omega)).imp id fun ⟨k1, k2, us, ty, k3, k4⟩ => ?_
    obtain ⟨c1, c2⟩ := b2 k2
    obtain ⟨us1, e1, e2⟩ := c2 us ty k3
    rw [b1]
    exact ⟨k1, c1, us1, ty, e1, by omega⟩
  | .gref k ver o, u, hv => by
    simp only [VRep] at hv ⊢
    obtain ⟨ad, v', e, rows, h1, h2, h3, h4⟩ := hv
    obtain ⟨v2, r2, g1, g2, g3⟩ := h.gc k v' e rows h2
    refine ⟨ad, v2, e, r2, h1, g1, by omega, fun hv => ?_⟩;rw [(g3 (by omega)).1];exact h4 (by omega)
  | .agg cs, u, hv => by
    simp only [VRep] at hv ⊢
    obtain ⟨us, h1, h2, h3⟩ := hv
    exact ⟨us, h1, RowRep.mono h cs us h2, h3⟩
  | .tup cs, u, hv => by
    simp only [VRep] at hv ⊢
    obtain ⟨us, h1, h2⟩ := hv
    exact ⟨us, h1, RowRep.mono h cs us h2⟩
theorem RowRep.mono {X X' : Ctx} (h : Ext X X') : ∀ (vs : List V) (us : List Value), RowRep X vs us → RowRep X' vs us
  | [], us, hv => by simpa [RowRep] using hv
  | v :: vs, us, hv => by
    simp only [RowRep] at hv ⊢
    obtain ⟨u, us', h1, h2, h3⟩ := hv
    exact ⟨u, us', h1, VRep.mono h v u h2, RowRep.mono h vs us' h3⟩
theorem CellsAt.mono {X X' : Ctx} (h : Ext X X') : ∀ (vs : List V) (b o : Nat), CellsAt X vs b o → CellsAt X' vs b o
  | [], b, o, hv => by simp [CellsAt]
  | v :: vs, b, o, hv => by
    simp only [CellsAt] at hv ⊢
    obtain ⟨⟨u, h1, h2, h3, h5⟩, h4⟩ := hv
    exact ⟨⟨u, (h.stb b o h3).2.trans h1, VRep.mono h v u h2, (h.stb b o h3).1, h5⟩, CellsAt.mono h vs b (o + 1) h4⟩
theorem RowsAt.mono {X X' : Ctx} (h : Ext X X') (e : Nat) : ∀ (vs : List (List V)) (b o : Nat), RowsAt X e vs b o → RowsAt X' e vs b o
  | [], b, o, hv => by simp [RowsAt]
  | r :: rs, b, o, hv => by
    simp only [RowsAt] at hv ⊢
    exact ⟨hv.1, CellsAt.mono h r b o hv.2.1, RowsAt.mono h e rs b (o + e) hv.2.2⟩
end
end Go.Vm
set_option linter.unusedVariables false
set_option linter.unusedSimpArgs false
namespace Go.Vm
def upd {α : Type} (f : Nat → α) (k : Nat) (v : α) : Nat → α := fun i => if i = k then v else f i
theorem upd_eq {α : Type} (f : Nat → α) (k : Nat) (v : α) : upd f k v k = v := if_pos rfl
theorem upd_ne {α : Type} (f : Nat → α) (k : Nat) (v : α) (i : Nat) (h : i ≠ k) : upd f k v i = f i := if_neg h
def upds {α : Type} (f : Nat → α) : List (Nat × α) → Nat → α
  | [] => f
  | (k, v) :: l => upds (upd f k v) l
theorem upds_not {α : Type} : ∀ (l : List (Nat × α)) (f : Nat → α) (i : Nat), (∀ p ∈ l, p.1 ≠ i) → upds f l i = f i
  | [], f, i, h => rfl
  | (k, v) :: l, f, i, h => by
    rw [upds, upds_not l _ i (fun p hp => h p (List.mem_cons_of_mem _ hp)), upd_ne _ _ _ _ (fun e => h (k, v) (List.mem_cons_self ..) e.symm)]
structure R (n : Nat) (X : Ctx) : Prop where
  dead : ∀ k, n ≤ k → X.bx k = .dead
  free : ∀ b, X.w.heap.size ≤ b → X.O b = .free
  box : ∀ k cs, X.bx k = .cells cs → X.O (X.bl k) = .box k ∧ ∃ us ty, X.w.heap[X.bl k]? = some (.cells (List.toArray us) ty (0, 0)) ∧ RowRep X cs us ∧ ∀ x ∈ us, oneV x = true
  gbox : ∀ k v e rows, X.bx k = .gcells v e rows → (∀ r ∈ rows, r.length = e) ∧ (rows = [] ∨ X.O (X.bl k) = .box k ∧ ∃ us rest ty, X.w.heap[X.bl k]? = some (.cells (us ++ rest).toArray ty (0, 0)) ∧ RowRep X rows.flatten us ∧ us.length = rows.length * e ∧ ∀ x ∈ us, oneV x = true)
  obj : ∀ k o, X.bx k = .obj o → X.O (X.bl k) = .box k ∧ X.w.heap[X.bl k]? = some o ∧ o.isCells = false
theorem R.bump {n m : Nat} {X : Ctx} (h : R n X) (hm : n ≤ m) : R m X := ⟨fun k hk => h.dead k (by omega), h.free, h.box, h.gbox, h.obj⟩
mutual
def V.bd (n : Nat) : V → Prop
  | .ref k _ => k < n
  | .ro row => bdL n row
  | .sl _ xs => bdR n xs
  | .fl _ xs => bdR n xs
  | .own _ xs k => bdR n xs ∧ k < n
  | .msl k _ _ _ _ => k < n
  | .gsl k _ _ _ _ => k < n
  | .gref k _ _ => k < n
  | .fn _ cap => bdL n cap
  | .agg cs => bdL n cs
  | .tup vs => bdL n vs
  | _ => True
def bdL (n : Nat) : List V → Prop
  | [] => True
  | v :: vs => v.bd n ∧ bdL n vs
def bdR (n : Nat) : List (List V) → Prop
  | [] => True
  | r :: rs => bdL n r ∧ bdR n rs
end
theorem is_lt {n k : Nat} {X : Ctx} (h : R n X) (hk : (X.bx k).is) : k < n := by
  apply Nat.lt_of_not_le
  intro hn
  rw [h.dead k hn] at hk
  exact hk
mutual
theorem VRep.bd {n : Nat} {X : Ctx} (h : R n X) : ∀ (v : V) (u : Value), VRep X v u → v.bd n
  | .junk, _, _ => by simp [V.bd]
  | .sc v, u, hv => by simp [V.bd]
  | .ref k o, u, hv => by simp only [VRep] at hv; simp only [V.bd]; exact is_lt h hv.1
  | .ro row, u, hv => by simp only [VRep] at hv; obtain ⟨b, o, _, h2⟩ := hv; simp only [V.bd]; exact CellsAt.bd h row b o h2
  | .sl e xs, u, hv => by
    simp only [VRep] at hv; simp only [V.bd]
    obtain ⟨a, c, _, _, h3⟩ := hv
    rcases h3 with rfl | ⟨b, o, _, h3⟩
    · simp [bdR]
    · exact RowsAt.bd h e xs b o h3
  | .fl e xs, u, hv => by
    simp only [VRep] at hv; simp only [V.bd]
    obtain ⟨a, _, h3⟩ := hv
    rcases h3 with rfl | ⟨b, o, _, h3⟩
    · simp [bdR]
    · exact RowsAt.bd h e xs b o h3
  | .own e xs k, u, hv => by
    simp only [VRep] at hv; simp only [V.bd]
    obtain ⟨a, c, _, _, h3, m, h4, _⟩ := hv
    refine ⟨?_, ?_⟩
    · rcases h3 with rfl | ⟨b, o, _, h3⟩
      · simp [bdR]
      · exact RowsAt.bd h e xs b o h3
    · apply Nat.lt_of_not_le
      intro hn
      rw [h.dead k hn] at h4
      cases h4
  | .msl k o len cap e, u, hv => by simp only [VRep] at hv; simp only [V.bd]; exact is_lt h hv.1
  | .gsl k ver q len e, u, hv => by
    simp only [VRep] at hv; simp only [V.bd]
    obtain ⟨a, c, v', e0, rows, _, _, h2, _⟩ := hv
    exact Nat.lt_of_not_le fun hn => by rw [h.dead k hn] at h2; cases h2
  | .gref k ver o, u, hv => by
    simp only [VRep] at hv; simp only [V.bd]
    obtain ⟨ad, v', e, rows, _, h2, _⟩ := hv
    exact Nat.lt_of_not_le fun hn => by rw [h.dead k hn] at h2; cases h2
  | .fn f cap, u, hv => by simp only [VRep] at hv; obtain ⟨us, _, h2⟩ := hv; simp only [V.bd]; exact RowRep.bd h cap us h2
  | .agg cs, u, hv => by simp only [VRep] at hv; obtain ⟨us, _, h2, _⟩ := hv; simp only [V.bd]; exact RowRep.bd h cs us h2
  | .tup cs, u, hv => by simp only [VRep] at hv; obtain ⟨us, _, h2⟩ := hv; simp only [V.bd]; exact RowRep.bd h cs us h2
theorem RowRep.bd {n : Nat} {X : Ctx} (h : R n X) : ∀ (vs : List V) (us : List Value), RowRep X vs us → bdL n vs
  | [], us, hv => by simp [bdL]
  | v :: vs, us, hv => by
    simp only [RowRep] at hv; simp only [bdL]
    obtain ⟨u, us', _, h2, h3⟩ := hv
    exact ⟨VRep.bd h v u h2, RowRep.bd h vs us' h3⟩
theorem CellsAt.bd {n : Nat} {X : Ctx} (h : R n X) : ∀ (vs : List V) (b o : Nat), CellsAt X vs b o → bdL n vs
  | [], b, o, hv => by simp [bdL]
  | v :: vs, b, o, hv => by
    simp only [CellsAt] at hv; simp only [bdL]
    obtain ⟨⟨u, _, h2, _, _⟩, h4⟩ := hv
    exact ⟨VRep.bd h v u h2, CellsAt.bd h vs b (o + 1) h4⟩
theorem RowsAt.bd {n : Nat} {X : Ctx} (h : R n X) (e : Nat) : ∀ (vs : List (List V)) (b o : Nat), RowsAt X e vs b o → bdR n vs
  | [], b, o, hv => by simp [bdR]
  | r :: rs, b, o, hv => by
    simp only [RowsAt] at hv; simp only [bdR]
    exact ⟨CellsAt.bd h r b o hv.2.1, RowsAt.bd h e rs b (o + e) hv.2.2⟩
end
def SameK (b b' : Box) : Prop := (b.is → b'.is) ∧ (∀ m, b = .tail m → b' = .tail m) ∧ ∀ v e rows, b = .gcells v e rows → ∃ rows', b' = .gcells v e rows'
theorem SameK.refl (b : Box) : SameK b b := ⟨id, fun _ h => h, fun v e rows h => ⟨rows, h⟩⟩
section
variable {X X' : Ctx} {n : Nat}
mutual
theorem VRep.cut (hO : X'.O = X.O) (hb : X'.bl = X.bl) (hw : X'.w = X.w) (h : ∀ k, k < n → SameK (X.bx k) (X'.bx k)) : ∀ (v : V) (u : Value), v.bd n → VRep X v u → VRep X' v u
  | .junk, _, _, _ => by simp [VRep]
  | .sc v, u, _, hv => by simpa [VRep] using hv
  | .ref k o, u, hn, hv => by simp only [V.bd] at hn; simp only [VRep] at hv ⊢; rw [hb]; exact ⟨(h k hn).1 hv.1, hv.2⟩
  | .ro row, u, hn, hv => by
    simp only [V.bd] at hn; simp only [VRep] at hv ⊢
    obtain ⟨b, o, h1, h2⟩ := hv
    exact ⟨b, o, h1, CellsAt.cut hO hb hw h row b o hn h2⟩
  | .sl e xs, u, hn, hv => by
    simp only [V.bd] at hn; simp only [VRep] at hv ⊢
    obtain ⟨a, c, h1, h2, h3⟩ := hv
    exact ⟨a, c, h1, h2, h3.imp id fun ⟨b, o, h4, h5⟩ => ⟨b, o, h4, RowsAt.cut hO hb hw h e xs b o hn h5⟩⟩
  | .fl e xs, u, hn, hv => by
    simp only [V.bd] at hn; simp only [VRep] at hv ⊢
    obtain ⟨a, h1, h3⟩ := hv
    exact ⟨a, h1, h3.imp id fun ⟨b, o, h4, h5⟩ => ⟨b, o, h4, RowsAt.cut hO hb hw h e xs b o hn h5⟩⟩
  | .own e xs k, u, hn, hv => by
    simp only [V.bd] at hn; simp only [VRep] at hv ⊢
    obtain ⟨a, c, h1, h2, h3, m, h6, h7, h8⟩ := hv
    refine ⟨a, c, h1, h2, h3.imp id fun ⟨b, o, h4, h5⟩ => ⟨b, o, h4, RowsAt.cut hO hb hw h e xs b o hn.1 h5⟩, m, (h k hn.2).2.1 m h6, h7, ?_⟩;rw [hO, hw];exact h8
  | .msl k o len cap e, u, hn, hv => by simp only [V.bd] at hn; simp only [VRep] at hv ⊢; rw [hb]; exact ⟨(h k hn).1 hv.1, hv.2⟩
  | .gsl k ver q len e, u, hn, hv => by
    simp only [V.bd] at hn; simp only [VRep] at hv ⊢
    obtain ⟨a, c, v', e0, rows, h1, h0, h2, h3, h4⟩ := hv
    obtain ⟨rows', g1⟩ := (h k hn).2.2 v' e0 rows h2
    refine ⟨a, c, v', e0, rows', h1, h0, g1, h3, ?_⟩;rw [hO, hb, hw]; exact h4
  | .gref k ver o, u, hn, hv => by
    simp only [V.bd] at hn; simp only [VRep] at hv ⊢
    obtain ⟨ad, v', e, rows, h1, h2, h3, h4⟩ := hv
    obtain ⟨rows', g1⟩ := (h k hn).2.2 v' e rows h2
    refine ⟨ad, v', e, rows', h1, g1, h3, ?_⟩;rw [hb]; exact h4
  | .fn f cap, u, hn, hv => by simp only [V.bd] at hn; simp only [VRep] at hv ⊢; obtain ⟨us, h1, h2⟩ := hv; exact ⟨us, h1, RowRep.cut hO hb hw h cap us hn h2⟩
  | .agg cs, u, hn, hv => by simp only [V.bd] at hn; simp only [VRep] at hv ⊢; obtain ⟨us, h1, h2, h3⟩ := hv; exact ⟨us, h1, RowRep.cut hO hb hw h cs us hn h2, h3⟩
  | .tup cs, u, hn, hv => by simp only [V.bd] at hn; simp only [VRep] at hv ⊢; obtain ⟨us, h1, h2⟩ := hv; exact ⟨us, h1, RowRep.cut hO hb hw h cs us hn h2⟩
theorem RowRep.cut (hO : X'.O = X.O) (hb : X'.bl = X.bl) (hw : X'.w = X.w) (h : ∀ k, k < n → SameK (X.bx k) (X'.bx k)) : ∀ (vs : List V) (us : List Value), bdL n vs → RowRep X vs us → RowRep X' vs us
  | [], us, hn, hv => by simpa [RowRep] using hv
  | v :: vs, us, hn, hv => by
    simp only [bdL] at hn; simp only [RowRep] at hv ⊢
    obtain ⟨u, us', h1, h2, h3⟩ := hv
    exact ⟨u, us', h1, VRep.cut hO hb hw h v u hn.1 h2, RowRep.cut hO hb hw h vs us' hn.2 h3⟩
theorem CellsAt.cut (hO : X'.O = X.O) (hb : X'.bl = X.bl) (hw : X'.w = X.w) (h : ∀ k, k < n → SameK (X.bx k) (X'.bx k)) : ∀ (vs : List V) (b o : Nat), bdL n vs → CellsAt X vs b o → CellsAt X' vs b o
  | [], b, o, hn, hv => by simp [CellsAt]
  | v :: vs, b, o, hn, hv => by
    simp only [bdL] at hn; simp only [CellsAt] at hv ⊢
    obtain ⟨⟨u, h1, h2, h3, h5⟩, h4⟩ := hv
    exact ⟨⟨u, by rw [hw]; exact h1, VRep.cut hO hb hw h v u hn.1 h2, by rw [hO]; exact h3, h5⟩, CellsAt.cut hO hb hw h vs b (o + 1) hn.2 h4⟩
theorem RowsAt.cut (hO : X'.O = X.O) (hb : X'.bl = X.bl) (hw : X'.w = X.w) (h : ∀ k, k < n → SameK (X.bx k) (X'.bx k)) (e : Nat) : ∀ (vs : List (List V)) (b o : Nat), bdR n vs → RowsAt X e vs b o → RowsAt X' e vs b o
  | [], b, o, hn, hv => by simp [RowsAt]
  | r :: rs, b, o, hn, hv => by
    simp only [bdR] at hn; simp only [RowsAt] at hv ⊢
    exact ⟨hv.1, CellsAt.cut hO hb hw h r b o hn.1 hv.2.1, RowsAt.cut hO hb hw h e rs b (o + e) hn.2 hv.2.2⟩
end
end
structure S where
  t : Nat → V
  n : Nat
  bx : Nat → Box
structure Bas where
  c : Ctx
  d : List Deferred
  esc : Act → World → Prop
  R : Option Nat
  mks : Bool
def base (X : Ctx) : Bas := ⟨X, [], fun _ _ => False, none, true⟩
def markD (D : Nat) : Deferred := { target := .collected D, args := #[] }
def Marks (B : Bas) (X : Ctx) (a : Act) : Prop := ∃ ms : List Nat, (B.mks = false → ms = []) ∧ ms.Nodup ∧ a.defers = ms.map markD ++ B.d ∧ ∀ D ∈ ms, B.c.O D = .free ∧ X.O D = .frz ∧ X.w.heap[D]? = some (.deferred (some []))
theorem Marks.mono {B : Bas} {X X' : Ctx} {a a' : Act} (h : Marks B X a) (he : Ext X X') (hd : a'.defers = a.defers) : Marks B X' a' := by
  obtain ⟨ms, h1, h2, h3, h4⟩ := h
  refine ⟨ms, h1, h2, hd.trans h3, fun D hD => ?_⟩;obtain ⟨g1, g2, g3⟩ := h4 D hD;obtain ⟨k1, k2⟩ := he.frz D g2;exact ⟨g1, k1, k2.trans g3⟩
theorem Marks.none {B : Bas} {X : Ctx} {a : Act} (h : Marks B X a) (hm : B.mks = false) : a.defers = B.d := by
  obtain ⟨ms, h1, _, h3, _⟩ := h
  rw [h1 hm] at h3; exact h3
theorem Marks.nil {B : Bas} {X : Ctx} {a : Act} (h : a.defers = B.d) : Marks B X a := ⟨[], fun _ => rfl, List.nodup_nil, h, fun D hD => by cases hD⟩
def fen (r : Option Nat) : Fence := { Fence.wide with round := r }
theorem put_defers (a : Act) (d : Option Tmp) (v : Value) : (a.put d v).defers = a.defers := by cases d <;> rfl
structure St (B : Bas) (N : Nat) (s : S) (X : Ctx) (a : Act) : Prop where
  rr : R s.n X
  bx : X.bx = s.bx
  t : ∀ i, VRep X (s.t i) (a.tmps.getD i undef)
  N : a.tmps.size = N
  defers : Marks B X a
  ext : Ext B.c X
def post (B : Bas) (N : Nat) (Q : Exit → S → Prop) : Exit → Act → World → Prop := fun e a w => (∃ s X, Q e s ∧ X.w = w ∧ St B N s X a) ∨ (e = .ret ∧ B.esc a w)
def Runs (P : Program) (B : Bas) (N : Nat) (c : Code) (s : S) (Q : Exit → S → Prop) : Prop := ∀ X a, St B N s X a → c.wpIn (fen B.R) 0 P (post B N Q) a X.w
def thenS (K : S → Prop) (Q : Exit → S → Prop) : Exit → S → Prop
  | .normal, s => K s
  | e, s => Q e s
def inBlockS (id : Nat) (Q : Exit → S → Prop) : Exit → S → Prop
  | .exit id', s => match Nat.beq id' id with
    | true => Q .normal s
    | false => Q (.exit id') s
  | e, s => Q e s
def ev (t : Nat → V) : Operand → V
  | .tmp i => t i
  | .const v => .sc v
  | .func f => .sc (.func (.func f) #[] #[])
  | .global g => .sc (.pointer (some ⟨g, 0, none⟩))
section
variable {P : Program} {B : Bas} {N : Nat} {s : S} {Q Q' : Exit → S → Prop}
theorem ev_rep {X : Ctx} {a : Act} {t : Nat → V} (h : ∀ i, VRep X (t i) (a.tmps.getD i undef)) (x : Operand) : VRep X (ev t x) (a.eval x) := by
  cases x with
  | tmp i => exact h i
  | const v => simp [ev, Act.eval, VRep]
  | func f => simp [ev, Act.eval, VRep]
  | global g => simp [ev, Act.eval, VRep]
theorem Runs.mono {c : Code} (h : Runs P B N c s Q) (hq : ∀ e s', Q e s' → Q' e s') : Runs P B N c s Q' :=
  fun X a hs => wpIn_mono (h X a hs) fun e a' w' h => h.imp (fun ⟨s', X', h1, h2, h3⟩ => ⟨s', X', hq e s' h1, h2, h3⟩) id
theorem runs_skip (h : Q .normal s) : Runs P B N .skip s Q := fun X a hs => wpIn_skip (.inl ⟨s, X, h, rfl, hs⟩)
theorem runs_ret (h : Q .ret s) : Runs P B N .ret s Q := fun X a hs => wpIn_ret (.inl ⟨s, X, h, rfl, hs⟩)
theorem runs_exit {id : Nat} (h : Q (.exit id) s) : Runs P B N (.exit id) s Q := fun X a hs => wpIn_exit (.inl ⟨s, X, h, rfl, hs⟩)
theorem runs_seq {x y : Code} (h : Runs P B N x s (thenS (fun s' => Runs P B N y s' Q) Q)) : Runs P B N (.seq x y) s Q := by
  intro X a hs
  refine wpIn_seq (wpIn_mono (h X a hs) ?_)
  rintro e a' w' (⟨s', X', h1, rfl, h3⟩ | ⟨rfl, hE⟩)
  · cases e with
    | normal => exact h1 X' a' h3
    | _ => exact .inl ⟨s', X', h1, rfl, h3⟩
  · exact .inr ⟨rfl, hE⟩
theorem runs_block {id : Nat} {c : Code} (h : Runs P B N c s (inBlockS id Q)) : Runs P B N (.block id c) s Q := by
  intro X a hs
  refine wpIn_block (wpIn_mono (h X a hs) ?_)
  rintro e a' w' (⟨s', X', h1, rfl, h3⟩ | ⟨rfl, hE⟩)
  rotate_left
  · exact .inr ⟨rfl, hE⟩
  cases e with
  | exit id' =>
    simp only [Exit.inBlock]
    simp only [inBlockS] at h1
    split
    · rename_i hid; subst hid; rw [show Nat.beq id' id' = true from Nat.beq_refl id'] at h1; exact .inl ⟨s', X', h1, rfl, h3⟩
    · rename_i hid
      have hb : Nat.beq id' id = false := by
        cases h : Nat.beq id' id with
        | false => rfl
        | true => exact absurd (Nat.eq_of_beq_eq_true h) hid
      rw [hb] at h1; exact .inl ⟨s', X', h1, rfl, h3⟩
  | _ => exact .inl ⟨s', X', h1, rfl, h3⟩
theorem runs_cond {c : Operand} {x y : Code} (b : Bool) (hc : ev s.t c = .sc (.bool b)) (h1 : b = true → Runs P B N x s Q) (h2 : b = false → Runs P B N y s Q) : Runs P B N (.cond c x y) s Q := by
  intro X a hs
  have hv := ev_rep hs.t c
  rw [hc] at hv
  simp only [VRep] at hv
  exact wpIn_cond_split hv (fun h => h1 h X a hs) (fun h => h2 h X a hs)
def VLe (v v' : V) : Prop := ∀ X u, VRep X v u → VRep X v' u
theorem VLe.refl (v : V) : VLe v v := fun _ _ h => h
theorem VLe.junk (v : V) : VLe v .junk := fun _ _ _ => by simp [VRep]
inductive VLes : List V → List V → Prop
  | nil : VLes [] []
  | cons {v v' : V} {vs vs' : List V} (h : VLe v v') (t : VLes vs vs') : VLes (v :: vs) (v' :: vs')
theorem VLes.row {X : Ctx} {vs vs' : List V} (h : VLes vs vs') : ∀ {us : List Value}, RowRep X vs us → RowRep X vs' us := by
  induction h with
  | nil => intro us h; exact h
  | cons h _ ih =>
    intro us hr
    simp only [RowRep] at hr ⊢
    obtain ⟨u, us', rfl, h1, h2⟩ := hr
    exact ⟨u, us', rfl, h _ _ h1, ih h2⟩
theorem VLes.length {vs vs' : List V} (h : VLes vs vs') : vs.length = vs'.length := by induction h <;> simp_all
inductive VLess : List (List V) → List (List V) → Prop
  | nil : VLess [] []
  | cons {v v' : List V} {vs vs' : List (List V)} (h : VLes v v') (t : VLess vs vs') : VLess (v :: vs) (v' :: vs')
theorem VLes.append {a b c d : List V} (h : VLes a b) (g : VLes c d) : VLes (a ++ c) (b ++ d) := by
  induction h with
  | nil => exact g
  | cons h _ ih => exact .cons h ih
theorem VLess.flat {a b : List (List V)} (h : VLess a b) : VLes a.flatten b.flatten := by
  induction h with
  | nil => exact .nil
  | cons h _ ih => exact h.append ih
theorem VLess.length {vs vs' : List (List V)} (h : VLess vs vs') : vs.length = vs'.length := by induction h <;> simp_all
theorem VLess.lens {e : Nat} {vs vs' : List (List V)} (h : VLess vs vs') : (∀ r ∈ vs, r.length = e) → ∀ r ∈ vs', r.length = e := by
  induction h with
  | nil => intro h; exact h
  | cons h _ ih =>
    intro h2 r hr
    rcases List.mem_cons.1 hr with rfl | hr
    · rw [← h.length]; exact h2 _ (List.mem_cons_self ..)
    · exact ih (fun r hr => h2 r (List.mem_cons_of_mem _ hr)) r hr
def BoxLe (b b' : Box) : Prop := b = b' ∨ (∃ cs cs', b = .cells cs ∧ b' = .cells cs' ∧ VLes cs cs') ∨ ∃ v e rows rows', b = .gcells v e rows ∧ b' = .gcells v e rows' ∧ (VLess rows rows' ∨ rows' = [])
theorem BoxLe.same {b b' : Box} (h : BoxLe b b') : SameK b b' := by
  rcases h with rfl | ⟨cs, cs', rfl, rfl, _⟩ | ⟨v, e, rows, rows', rfl, rfl, _⟩
  · exact SameK.refl _
  · exact ⟨fun _ => trivial, (fun m h => by cases h), fun v e rows h => by cases h⟩
  · exact ⟨fun h => h.elim, (fun m h => by cases h), fun v e rows h => by cases h; exact ⟨rows', rfl⟩⟩
theorem runs_weak {c : Code} {t' : Nat → V} {n' : Nat} (ht : ∀ i, VLe (s.t i) (t' i)) (hn : s.n ≤ n') (h : Runs P B N c ⟨t', n', s.bx⟩ Q) : Runs P B N c s Q := by
  intro X a hs
  exact h X a ⟨hs.rr.bump hn, hs.bx, fun i => ht i X _ (hs.t i), hs.N, hs.defers, hs.ext⟩
def SLe (s s' : S) : Prop := (∀ i, VLe (s.t i) (s'.t i)) ∧ s.n ≤ s'.n ∧ s.bx = s'.bx
theorem SLe.st {s s' : S} {X : Ctx} {a : Act} (h : SLe s s') (hs : St B N s X a) : St B N s' X a :=
  ⟨hs.rr.bump h.2.1, hs.bx.trans h.2.2, fun i => h.1 i X _ (hs.t i), hs.N, hs.defers, hs.ext⟩
theorem runs_loop {c : Code} (I : Nat → S → Prop) (i : Nat) (h0 : ∃ s', SLe s s' ∧ I i s')
    (round : ∀ i s, I i s → Runs P B N c s (thenS (fun s' => ∃ s'' j, j < i ∧ SLe s' s'' ∧ I j s'') Q)) : Runs P B N (.loop c) s Q := by
  intro X a hs
  obtain ⟨s0, hle, hI⟩ := h0
  refine wpIn_loop_ghost (fun i a w => ∃ s X, I i s ∧ X.w = w ∧ St B N s X a) i ⟨s0, X, hI, rfl, hle.st hs⟩ ?_
  rintro i a w ⟨s1, X1, h1, rfl, h2⟩
  refine wpIn_mono (round i s1 h1 X1 a h2) ?_
  rintro e a' w' (⟨s', X', h3, rfl, h4⟩ | ⟨rfl, hE⟩)
  · cases e with
    | normal => obtain ⟨s'', j, h5, h6, h7⟩ := h3; exact ⟨j, h5, s'', X', h7, rfl, h6.st h4⟩
    | _ => exact .inl ⟨s', X', h3, rfl, h4⟩
  · exact .inr ⟨rfl, hE⟩
def StepOK (P : Program) (o : Oper) (t : Nat → V) (pre up : List (Nat × Box)) (val : V) : Prop :=
  ∀ n X a next Q, R n X → (∀ x ∈ o.op.operands, VRep X (ev t x) (a.eval x)) → (∀ p ∈ pre, X.bx p.1 = p.2) → (∀ p ∈ up, p.1 < n) →
    (∀ X' u, X'.bx = upds X.bx up → R n X' → Ext X X' → VRep X' val u → next (a.put o.dst u) X'.w) → o.wp P a X.w next Q
theorem wpIn_of_wp {P : Program} {o : Oper} {a : Act} {w : World} {next : Act → World → Prop} {Q : Exit → Act → World → Prop} (r : Option Nat) (hd : r = none ∨ ∀ c, o.op ≠ .defer c) (h : o.wp P a w next Q) : o.wpIn (fen r) 0 P a w next Q := by
  have hsem : o.semAt (fen r).round a.eval = execOp a.eval o := by
    rcases hd with rfl | hd
    · exact Oper.semAt_none _ _
    · cases r with
      | none => exact Oper.semAt_none _ _
      | some l => exact Oper.semAt_some l _ _ hd
  refine ⟨fun _ _ => trivial, ?_⟩;rw [hsem];unfold Oper.wp at h
  generalize (execOp a.eval o).run P w = res at h ⊢
  have hdep : (fen r).depth.isSome = true → 1 ≤ 0 := fun h => by cases h
  cases res with
  | ok nx w' =>
    cases nx with
    | value v => exact h
    | skip => exact h
    | defer d => exact h
    | enter f args => exact ⟨hdep, (callsIn_wide (n := 0 - 1)).2 h⟩
    | row row args => exact ⟨hdep, fun c cs _ => by obtain ⟨v, w2, h1, h2⟩ := h c cs; exact ⟨v, w2, h1, stepsIn_wide.2 h2⟩⟩
    | _ => exact h.elim
  | halt hv w' =>
    cases hv with
    | panic v => exact h
    | _ => exact h.elim
theorem StepOK.nodefer {P : Program} {o : Oper} {t : Nat → V} {pre up : List (Nat × Box)} {val : V} {n : Nat} {X : Ctx} {a : Act} (h : StepOK P o t pre up val) (hR : R n X) (hop : ∀ x ∈ o.op.operands, VRep X (ev t x) (a.eval x)) (hpre : ∀ p ∈ pre, X.bx p.1 = p.2) (hup : ∀ p ∈ up, p.1 < n) : ∀ c, o.op ≠ .defer c := by
  intro c hc
  have h1 := h n X a (fun a' _ => a'.defers = a.defers) (fun _ _ _ => False) hR hop hpre hup (fun _ _ _ _ _ _ => put_defers _ _ _)
  unfold Oper.wp at h1
  rw [show execOp a.eval o = (do let d ← resolve a.eval c o.type; pure (.defer d) : Sem Next) by unfold execOp; rw [hc]] at h1
  rw [Sem.run_bind] at h1
  cases hr : (resolve a.eval c o.type).run P X.w with
  | ok d w' =>
    rw [hr] at h1
    simp only [Result.andThen, Sem.run_pure, Oper.upon, put_defers] at h1
    have := congrArg List.length h1
    simp at this
  | halt hv w' =>
    rw [hr] at h1
    simp only [Result.andThen] at h1
    cases hv <;> exact h1.elim
theorem StepOK.wpIn {P : Program} {o : Oper} {t : Nat → V} {pre up : List (Nat × Box)} {val : V} {n : Nat} {X : Ctx} {a : Act} {next : Act → World → Prop} {Q : Exit → Act → World → Prop} (r : Option Nat) (h : StepOK P o t pre up val) (hR : R n X) (hop : ∀ x ∈ o.op.operands, VRep X (ev t x) (a.eval x)) (hpre : ∀ p ∈ pre, X.bx p.1 = p.2) (hup : ∀ p ∈ up, p.1 < n)
    (hk : ∀ X' u, X'.bx = upds X.bx up → R n X' → Ext X X' → VRep X' val u → next (a.put o.dst u) X'.w) : o.wpIn (fen r) 0 P a X.w next Q :=
  wpIn_of_wp r (.inr (h.nodefer hR hop hpre hup)) (h n X a next Q hR hop hpre hup hk)
def putS (t : Nat → V) (d : Option Tmp) (v : V) : Nat → V :=
  match d with
  | some d => upd t d v
  | none => t
def okDst (N : Nat) : Option Tmp → Bool
  | some d => Nat.blt d N
  | none => true
theorem St.put {X X' : Ctx} {a : Act} {v : V} {u : Value} {up : List (Nat × Box)} {n' : Nat} {dst : Option Tmp} (hs : St B N s X a) (hd : okDst N dst = true) (hR : R n' X') (hb : X'.bx = upds X.bx up) (he : Ext X X') (hv : VRep X' v u) :
    St B N ⟨putS s.t dst v, n', upds s.bx up⟩ X' (a.put dst u) := by
  refine ⟨hR, by rw [hb, hs.bx], fun i => ?_, ?_, ?_, hs.ext.trans he⟩
  · cases dst with
    | none => exact VRep.mono he _ _ (hs.t i)
    | some d =>
      have hd' : d < a.tmps.size := by rw [hs.N]; exact Nat.blt_eq ▸ (by simpa [okDst] using hd)
      simp only [putS, Act.put]
      by_cases hi : i = d
      · subst hi
        rw [upd_eq]
        simpa [hd'] using hv
      · rw [upd_ne _ _ _ _ hi]
        have := VRep.mono he _ _ (hs.t i)
        simpa [Array.getElem?_setIfInBounds_ne (Ne.symm hi)] using this
  · cases dst <;> simp [Act.put, hs.N]
  · exact hs.defers.mono he (put_defers _ _ _)
def RunsL (P : Program) (B : Bas) (N : Nat) (ops : Array Oper) (l : List Oper) (s : S) (Q : Exit → S → Prop) : Prop := ∀ X a, St B N s X a → wpListIn (fen B.R) 0 P ops (post B N Q) l a X.w
variable {ops : Array Oper} {l : List Oper} {o : Oper}
theorem runsL_nil (h : Q .normal s) : RunsL P B N ops [] s Q := fun X a hs => wpListIn_nil (.inl ⟨s, X, h, rfl, hs⟩)
theorem runs_region {id : Nat} (h : RunsL P B N ops ops.toList s Q) : Runs P B N (.region id ops false) s Q := fun X a hs => wpIn_region_list (h X a hs)
theorem runsL_cons {pre up : List (Nat × Box)} {val : V} (hg : o.guard = none) (hs : StepOK P o s.t pre up val) (hpre : ∀ p ∈ pre, s.bx p.1 = p.2) (hup : ∀ p ∈ up, p.1 < s.n) (hd : okDst N o.dst = true)
    (h : RunsL P B N ops l ⟨putS s.t o.dst val, s.n, upds s.bx up⟩ Q) : RunsL P B N ops (o :: l) s Q := by
  intro X a hst
  refine wpListIn_plain hg fun K hK => ?_
  refine hs.wpIn B.R hst.rr (fun x _ => ev_rep hst.t x) (fun p hp => by rw [hst.bx]; exact hpre p hp) hup ?_
  intro X' u hb hR he hv
  exact hK _ _ (h X' _ (hst.put hd hR hb he hv))
theorem runsL_guard {pre up : List (Nat × Box)} {val : V} {j : Nat} {wt b : Bool} {g : Oper} {d : Tmp} (hg : o.guard = some (j, wt)) (hj : ops[j]? = some g) (hgd : g.dst = some d) (hb : s.t d = .sc (.bool b)) (hdN : Nat.blt d N = true) (hwt : (b == wt) = true)
    (hs : StepOK P o s.t pre up val) (hpre : ∀ p ∈ pre, s.bx p.1 = p.2) (hup : ∀ p ∈ up, p.1 < s.n) (hd : okDst N o.dst = true)
    (h : RunsL P B N ops l ⟨putS s.t o.dst val, s.n, upds s.bx up⟩ Q) : RunsL P B N ops (o :: l) s Q := by
  intro X a hst
  have hv := hst.t d
  rw [hb] at hv
  simp only [VRep] at hv
  have hdN' : d < a.tmps.size := by rw [hst.N]; exact Nat.blt_eq ▸ (by simpa using hdN)
  have hy : yielded ops a.tmps j = some b := by
    have e1 : a.tmps[d]? = some (.bool b) := by
      rw [Array.getElem?_eq_getElem hdN'] 
      have : a.tmps.getD d undef = a.tmps[d] := by simp [hdN']
      rw [← this, hv]
    simp [yielded, hj, hgd, e1]
  have hw : Region.wanted o (yielded ops a.tmps) = true := by
    simp only [Region.wanted, hg, hy]
    cases b <;> cases wt <;> simp_all
  refine wpListIn_step fun K hK => ?_
  rw [if_pos hw]
  refine hs.wpIn B.R hst.rr (fun x _ => ev_rep hst.t x) (fun p hp => by rw [hst.bx]; exact hpre p hp) hup ?_
  intro X' u hb hR he hv
  exact hK _ _ (h X' _ (hst.put hd hR hb he hv))
def NoGuard (v : V) (wt : Bool) : Prop := (∃ b, v = .sc (.bool b) ∧ (b == wt) = false) ∨ v = .sc undef
theorem NoGuard.wanted {X : Ctx} {v : V} {u : Value} {wt : Bool} (h : NoGuard v wt) (hv : VRep X v u) : (match some u with | some (.bool b) => some b | _ => none) ≠ some wt := by
  rcases h with ⟨b, rfl, hb⟩ | rfl
  · simp only [VRep] at hv; subst hv; intro e; cases e; simp at hb
  · simp only [VRep] at hv; subst hv; intro e; cases e
theorem runsL_skip {j : Nat} {wt : Bool} {g : Oper} {d : Tmp} (hg : o.guard = some (j, wt)) (hj : ops[j]? = some g) (hgd : g.dst = some d) (hb : NoGuard (s.t d) wt) (hdN : Nat.blt d N = true)
    (hd : okDst N o.dst = true) (h : RunsL P B N ops l ⟨putS s.t o.dst (.sc undef), s.n, s.bx⟩ Q) : RunsL P B N ops (o :: l) s Q := by
  intro X a hst
  have hv := hst.t d
  have hdN' : d < a.tmps.size := by rw [hst.N]; exact Nat.blt_eq ▸ (by simpa using hdN)
  have e1 : a.tmps[d]? = some (a.tmps.getD d undef) := by
    rw [Array.getElem?_eq_getElem hdN']
    have : a.tmps.getD d undef = a.tmps[d] := by simp [hdN']
    rw [this]
  have hy : yielded ops a.tmps j ≠ some wt := by
    have := hb.wanted hv
    simp only [yielded, hj, hgd, Option.bind_some, e1]
    exact this
  have hw : ¬ Region.wanted o (yielded ops a.tmps) = true := by
    simp only [Region.wanted, hg]
    simpa using hy
  refine wpListIn_step fun K hK => ?_
  rw [if_neg hw]
  refine ⟨fun _ _ => trivial, hK _ _ (h X _ ?_)⟩;exact hst.put (up := []) hd hst.rr rfl (Ext.refl X) (by simp [VRep])
end
def Does (P : Program) (f : FuncId) (vs : List V) (pre up : List (Nat × Box)) (r : V) : Prop :=
  ∀ n X (args : Array Value), R n X → RowRep X vs args.toList → (∀ p ∈ pre, X.bx p.1 = p.2) → (∀ p ∈ up, p.1 < n) →
    Calls P f args X.w fun e w' => ∃ X' u, e = .returned u ∧ VRep X' r u ∧ X'.bx = upds X.bx up ∧ R n X' ∧ Ext X X' ∧ X'.w = w'
end Go.Vm
set_option linter.unusedVariables false
set_option linter.unusedSimpArgs false
namespace Go.Vm
section
variable {X X' : Ctx}
theorem RowRep.length : ∀ {vs : List V} {us : List Value}, RowRep X vs us → vs.length = us.length
  | [], us, h => by simp only [RowRep] at h; subst h; rfl
  | v :: vs, us, h => by
    simp only [RowRep] at h
    obtain ⟨u, us', rfl, _, h3⟩ := h
    simp [RowRep.length h3]
theorem RowRep.get : ∀ {vs : List V} {us : List Value} (i : Nat) {v : V}, RowRep X vs us → vs[i]? = some v → ∃ u, us[i]? = some u ∧ VRep X v u
  | [], us, i, v, h, hi => by simp at hi
  | v :: vs, us, i, v', h, hi => by
    simp only [RowRep] at h
    obtain ⟨u, us', rfl, h2, h3⟩ := h
    cases i with
    | zero => simp at hi; subst hi; exact ⟨u, rfl, h2⟩
    | succ i => simp at hi; simpa using RowRep.get i h3 hi
theorem RowRep.append : ∀ {vs vs' : List V} {us us' : List Value}, RowRep X vs us → RowRep X vs' us' → RowRep X (vs ++ vs') (us ++ us')
  | [], vs', us, us', h, g => by simp only [RowRep] at h; subst h; simpa using g
  | v :: vs, vs', us, us', h, g => by
    simp only [RowRep] at h
    obtain ⟨u, us1, rfl, h2, h3⟩ := h
    simp only [List.cons_append, RowRep]
    exact ⟨u, us1 ++ us', rfl, h2, RowRep.append h3 g⟩
theorem RowRep.drop : ∀ {vs : List V} {us : List Value} (i : Nat), RowRep X vs us → RowRep X (vs.drop i) (us.drop i)
  | [], us, i, h => by simp only [RowRep] at h; subst h; simp [RowRep]
  | v :: vs, us, i, h => by
    cases i with
    | zero => simpa using h
    | succ i =>
      simp only [RowRep] at h
      obtain ⟨u, us1, rfl, h2, h3⟩ := h
      simpa using RowRep.drop i h3
theorem RowRep.take : ∀ {vs : List V} {us : List Value} (i : Nat), RowRep X vs us → RowRep X (vs.take i) (us.take i)
  | [], us, i, h => by simp only [RowRep] at h; subst h; simp [RowRep]
  | v :: vs, us, i, h => by
    cases i with
    | zero => simp [RowRep]
    | succ i =>
      simp only [RowRep] at h
      obtain ⟨u, us1, rfl, h2, h3⟩ := h
      simp only [List.take_succ_cons, RowRep]
      exact ⟨u, us1.take i, rfl, h2, RowRep.take i h3⟩
theorem RowRep.one {v : V} {u : Value} (h : VRep X v u) : RowRep X [v] [u] := by simp only [RowRep]; exact ⟨u, [], rfl, h, rfl⟩
end
theorem gc_same {X X' : Ctx} (hb : ∀ k v e rows, X.bx k = .gcells v e rows → X'.bx k = .gcells v e rows ∧ X'.bl k = X.bl k ∧ (X.O (X.bl k) = .box k → X'.O (X.bl k) = .box k ∧ X'.w.heap[X.bl k]? = X.w.heap[X.bl k]?)) :
    ∀ k v e rows, X.bx k = .gcells v e rows → ∃ v' rows', X'.bx k = .gcells v' e rows' ∧ v ≤ v' ∧ (v' = v → X'.bl k = X.bl k ∧ (X.O (X.bl k) = .box k → X'.O (X.bl k) = .box k ∧ ∀ us ty, X.w.heap[X.bl k]? = some (.cells us ty (0, 0)) → ∃ us', X'.w.heap[X.bl k]? = some (.cells us' ty (0, 0)) ∧ us'.size = us.size)) := by
  intro k v e rows hk
  obtain ⟨h1, h2, h3⟩ := hb k v e rows hk
  exact ⟨v, rows, h1, Nat.le_refl _, fun _ => ⟨h2, fun hO => ⟨(h3 hO).1, fun us ty hu => ⟨us, by rw [(h3 hO).2]; exact hu, rfl⟩⟩⟩⟩
theorem gbox_same {n : Nat} {X X' : Ctx} (h : R n X) (he : Ext X X') (hb : ∀ k v e rows, X'.bx k = .gcells v e rows → X.bx k = .gcells v e rows ∧ X'.bl k = X.bl k ∧ (X.O (X.bl k) = .box k → X'.O (X.bl k) = .box k ∧ X'.w.heap[X.bl k]? = X.w.heap[X.bl k]?)) :
    ∀ k v e rows, X'.bx k = .gcells v e rows → (∀ r ∈ rows, r.length = e) ∧ (rows = [] ∨ X'.O (X'.bl k) = .box k ∧ ∃ us rest ty, X'.w.heap[X'.bl k]? = some (.cells (us ++ rest).toArray ty (0, 0)) ∧ RowRep X' rows.flatten us ∧ us.length = rows.length * e ∧ ∀ x ∈ us, oneV x = true) := by
  intro k v e rows hk
  obtain ⟨h1, h2, h3⟩ := hb k v e rows hk
  obtain ⟨g1, g2⟩ := h.gbox k v e rows h1
  refine ⟨g1, g2.imp id fun ⟨j1, us, rest, ty, j2, j3, j4, j5⟩ => ?_⟩;rw [h2];exact ⟨(h3 j1).1, us, rest, ty, by rw [(h3 j1).2]; exact j2, RowRep.mono he _ _ j3, j4, j5⟩
theorem obj_same {n : Nat} {X X' : Ctx} (h : R n X) (_he : Ext X X') (hb : ∀ k o, X'.bx k = .obj o → X.bx k = .obj o ∧ X'.bl k = X.bl k ∧ (X.O (X.bl k) = .box k → X'.O (X.bl k) = .box k ∧ X'.w.heap[X.bl k]? = X.w.heap[X.bl k]?)) :
    ∀ k o, X'.bx k = .obj o → X'.O (X'.bl k) = .box k ∧ X'.w.heap[X'.bl k]? = some o ∧ o.isCells = false := by
  intro k o hk
  obtain ⟨h1, h2, h3⟩ := hb k o hk
  obtain ⟨g1, g2, g3⟩ := h.obj k o h1
  rw [h2]
  exact ⟨(h3 g1).1, (h3 g1).2.trans g2, g3⟩
theorem set_box {n k : Nat} {X : Ctx} {cs cs' : List V} {us' : List Value} {w' : World} (h : R n X) (hk : X.bx k = .cells cs)
    (hos : w'.os = X.w.os) (htape : w'.tape = X.w.tape) (hout : w'.output = X.w.output) (hsz : w'.heap.size = X.w.heap.size)
    (hne : ∀ b, b ≠ X.bl k → w'.heap[b]? = X.w.heap[b]?) (hnew : ∃ ty, w'.heap[X.bl k]? = some (.cells us'.toArray ty (0, 0)))
    (hr : RowRep X cs' us') (h1 : ∀ x ∈ us', oneV x = true) : R n { X with bx := upd X.bx k (.cells cs'), w := w' } ∧ Ext X { X with bx := upd X.bx k (.cells cs'), w := w' } := by
  have hO := (h.box k cs hk).1
  have he : Ext X { X with bx := upd X.bx k (.cells cs'), w := w' } := by
    refine ⟨fun b o hs => ⟨hs, ?_⟩, fun j hj => ⟨?_, rfl⟩, fun j m hj => ⟨m, ?_, Nat.le_refl _, fun _ b st arr ty h1 h2 => ⟨h1, arr, ?_, rfl⟩⟩, fun b hb => ⟨hb, ?_⟩, gc_same fun j v e rows hj => ⟨?_, rfl, fun hOj => ⟨hOj, ?_⟩⟩, hos, htape, hout, by show _ ≤ w'.heap.size; omega⟩
    · have : b ≠ X.bl k := by intro e; subst e; rw [hO] at hs; exact hs
      exact World.cell?_of_block (w := X.w) (a := ⟨b, o, none⟩) (hne b this)
    · show (upd X.bx k (.cells cs') j).is
      by_cases e : j = k
      · subst e; rw [upd_eq]; trivial
      · rw [upd_ne _ _ _ _ e]; exact hj
    · show upd X.bx k (.cells cs') j = _
      have e : j ≠ k := by intro e; subst e; rw [hk] at hj; cases hj
      rw [upd_ne _ _ _ _ e]; exact hj
    · have : b ≠ X.bl k := by intro e; subst e; rw [hO] at h1; cases h1
      exact (hne b this).trans h2
    · have : b ≠ X.bl k := by intro e; subst e; rw [hO] at hb; cases hb
      exact hne b this
    · show upd X.bx k (.cells cs') j = _
      have e : j ≠ k := by intro e; subst e; rw [hk] at hj; cases hj
      rw [upd_ne _ _ _ _ e]; exact hj
    · have e : j ≠ k := by intro e; subst e; rw [hk] at hj; cases hj
      have : X.bl j ≠ X.bl k := by intro e2; rw [e2, hO] at hOj; cases hOj; exact e rfl
      exact hne _ this
  refine ⟨⟨fun j hj => ?_, fun b hb => h.free b (by simpa [hsz] using hb), fun j cs1 hj => ?_, gbox_same h he fun j v e rows hj => ?_, obj_same h he fun j o hj => ?_⟩, he⟩
  · show upd X.bx k (.cells cs') j = _
    have e : j ≠ k := by intro e; subst e; rw [h.dead j hj] at hk; cases hk
    rw [upd_ne _ _ _ _ e]; exact h.dead j hj
  · by_cases e : j = k
    · subst e
      have hj' : upd X.bx j (.cells cs') j = .cells cs1 := hj
      rw [upd_eq] at hj'
      cases hj'
      obtain ⟨ty, hn⟩ := hnew
      exact ⟨hO, us', ty, hn, RowRep.mono he _ _ hr, h1⟩
    · have hj' : upd X.bx k (.cells cs') j = .cells cs1 := hj
      rw [upd_ne _ _ _ _ e] at hj'
      obtain ⟨h1, us, ty, h2, h3, h4⟩ := h.box j cs1 hj'
      have : X.bl j ≠ X.bl k := by intro e2; rw [e2] at h1; rw [h1] at hO; cases hO; exact e rfl
      exact ⟨h1, us, ty, (hne _ this).trans h2, RowRep.mono he _ _ h3, h4⟩
  · have hj' : upd X.bx k (.cells cs') j = .gcells v e rows := hj
    have e : j ≠ k := t_60
    rw [upd_ne _ _ _ _ e] at hj'
    refine ⟨hj', rfl, fun hOj => ⟨hOj, hne _ ?_⟩⟩
    intro e2; rw [e2, hO] at hOj; cases hOj; exact e rfl
  · have hj' : upd X.bx k (.cells cs') j = .obj o := hj
    have e : j ≠ k := t_60
    rw [upd_ne _ _ _ _ e] at hj'
    refine ⟨hj', rfl, fun hOj => ⟨hOj, hne _ ?_⟩⟩
    intro e2; rw [e2, hO] at hOj; cases hOj; exact e rfl
theorem new_box {n k : Nat} {X : Ctx} {cs : List V} {us : List Value} {ty : TypeId} (h : R n X) (hk : X.bx k = .dead) (hn : k < n) (hr : RowRep X cs us) (h1 : ∀ x ∈ us, oneV x = true) :
    ∃ X', X'.bx = upd X.bx k (.cells cs) ∧ X'.w = X.w.alloc (.cells us.toArray ty (0, 0)) ∧ X'.bl k = X.w.heap.size ∧ R n X' ∧ Ext X X' := by
  let X' : Ctx := { O := upd X.O X.w.heap.size (.box k), bl := upd X.bl k X.w.heap.size, bx := upd X.bx k (.cells cs), w := X.w.alloc (.cells us.toArray ty (0, 0)) }
  have hfree := h.free X.w.heap.size (Nat.le_refl _)
  have hne : ∀ b, b ≠ X.w.heap.size → X'.w.heap[b]? = X.w.heap[b]? := by
    intro b hb
    show (X.w.heap.push _)[b]? = _
    rw [Array.getElem?_push, if_neg hb]
  have hOne : ∀ b, b ≠ X.w.heap.size → X'.O b = X.O b := fun b hb => upd_ne _ _ _ _ hb
  have he : Ext X X' := by
    refine ⟨fun b o hs => ?_, fun j hj => ?_, fun j m hj => ⟨m, ?_, Nat.le_refl _, fun _ b st arr ty h1 h2 => ⟨?_, arr, ?_, rfl⟩⟩, fun b hb => ?_, gc_same fun j v e rows hj => ?_, rfl, rfl, rfl, by show _ ≤ (X.w.heap.push _).size; simp⟩
    · have : b ≠ X.w.heap.size := by intro e; subst e; rw [hfree] at hs; exact hs
      rw [hOne b this]
      exact ⟨hs, World.cell?_of_block (w := X.w) (a := ⟨b, o, none⟩) (hne b this)⟩
    · have e : j ≠ k := by intro e; subst e; rw [hk] at hj; exact hj
      exact ⟨by show (upd X.bx k (.cells cs) j).is; rw [upd_ne _ _ _ _ e]; exact hj, upd_ne _ _ _ _ e⟩
    · have e : j ≠ k := by intro e; subst e; rw [hk] at hj; cases hj
      exact (upd_ne _ _ _ _ e).trans hj
    · have : b ≠ X.w.heap.size := by intro e; subst e; rw [hfree] at h1; cases h1
      rw [hOne b this]; exact h1
    · have : b ≠ X.w.heap.size := by intro e; subst e; rw [hfree] at h1; cases h1
      exact (hne b this).trans h2
    · have : b ≠ X.w.heap.size := by intro e; subst e; rw [hfree] at hb; cases hb
      rw [hOne b this]
      exact ⟨hb, hne b this⟩
    · have e : j ≠ k := by intro e; subst e; rw [hk] at hj; cases hj
      refine ⟨(upd_ne _ _ _ _ e).trans hj, upd_ne _ _ _ _ e, fun hOj => ?_⟩;have : X.bl j ≠ X.w.heap.size := t_122;exact ⟨(hOne _ this).trans hOj, hne _ this⟩
  refine ⟨X', rfl, rfl, upd_eq _ _ _, ⟨fun j hj => ?_, fun b hb => ?_, fun j cs1 hj => ?_, gbox_same h he fun j v e rows hj => ?_, obj_same h he fun j o hj => ?_⟩, he⟩
  · have e : j ≠ k := by omega
    exact (upd_ne _ _ _ _ e).trans (h.dead j hj)
  · have hb' : (X.w.heap.push (Obj.cells us.toArray ty (0, 0))).size ≤ b := hb
    rw [Array.size_push] at hb'
    rw [hOne b (by omega)]
    exact h.free b (by omega)
  · by_cases e : j = k
    · subst e
      have hj' : upd X.bx j (.cells cs) j = .cells cs1 := hj
      rw [upd_eq] at hj'
      cases hj'
      have hbl : X'.bl j = X.w.heap.size := upd_eq _ _ _
      rw [hbl]
      refine ⟨upd_eq _ _ _, us, ty, ?_, RowRep.mono he _ _ hr, h1⟩;show (X.w.heap.push _)[X.w.heap.size]? = _
      simp
    · have hj' : upd X.bx k (.cells cs) j = .cells cs1 := hj
      rw [upd_ne _ _ _ _ e] at hj'
      obtain ⟨h1, us1, ty1, h2, h3, h4⟩ := h.box j cs1 hj'
      have hbl : X'.bl j = X.bl j := upd_ne _ _ _ _ e
      have : X.bl j ≠ X.w.heap.size := by intro e2; rw [e2] at h1; rw [hfree] at h1; cases h1
      rw [hbl, hOne _ this]
      exact ⟨h1, us1, ty1, (hne _ this).trans h2, RowRep.mono he _ _ h3, h4⟩
  · have hj' : upd X.bx k (.cells cs) j = .gcells v e rows := hj
    have e : j ≠ k := t_60
    rw [upd_ne _ _ _ _ e] at hj'
    refine ⟨hj', upd_ne _ _ _ _ e, fun hOj => ?_⟩;have : X.bl j ≠ X.w.heap.size := by intro e2; rw [e2, hfree] at hOj; cases hOj
    exact ⟨(hOne _ this).trans hOj, hne _ this⟩
  · have hj' : upd X.bx k (.cells cs) j = .obj o := hj
    have e : j ≠ k := t_60
    rw [upd_ne _ _ _ _ e] at hj'
    refine ⟨hj', upd_ne _ _ _ _ e, fun hOj => ?_⟩;have : X.bl j ≠ X.w.heap.size := by intro e2; rw [e2, hfree] at hOj; cases hOj
    exact ⟨(hOne _ this).trans hOj, hne _ this⟩
theorem new_frz {n : Nat} {X : Ctx} {cells : Array Value} {ty : TypeId} (h : R n X) :
    ∃ X', X'.bx = X.bx ∧ X'.w = X.w.alloc (.cells cells ty (0, 0)) ∧ X'.O X.w.heap.size = .frz ∧ R n X' ∧ Ext X X' := by
  let X' : Ctx := { X with O := upd X.O X.w.heap.size .frz, w := X.w.alloc (.cells cells ty (0, 0)) }
  have hfree := h.free X.w.heap.size (Nat.le_refl _)
  have hne : ∀ b, b ≠ X.w.heap.size → X'.w.heap[b]? = X.w.heap[b]? := by
    intro b hb
    show (X.w.heap.push _)[b]? = _
    rw [Array.getElem?_push, if_neg hb]
  have hOne : ∀ b, b ≠ X.w.heap.size → X'.O b = X.O b := fun b hb => upd_ne _ _ _ _ hb
  have he : Ext X X' := by
    refine ⟨fun b o hs => ?_, fun j hj => ⟨hj, rfl⟩, fun j m hj => ⟨m, hj, Nat.le_refl _, fun _ b st arr ty h1 h2 => ⟨?_, arr, ?_, rfl⟩⟩, fun b hb => ?_, gc_same fun j v e rows hj => ⟨hj, rfl, fun hOj => ?_⟩, rfl, rfl, rfl, by show _ ≤ (X.w.heap.push _).size; simp⟩
    · have : b ≠ X.w.heap.size := by intro e; subst e; rw [hfree] at hs; exact hs
      rw [hOne b this]
      exact ⟨hs, World.cell?_of_block (w := X.w) (a := ⟨b, o, none⟩) (hne b this)⟩
    · have : b ≠ X.w.heap.size := by intro e; subst e; rw [hfree] at h1; cases h1
      rw [hOne b this]; exact h1
    · have : b ≠ X.w.heap.size := by intro e; subst e; rw [hfree] at h1; cases h1
      exact (hne b this).trans h2
    · have : b ≠ X.w.heap.size := by intro e; subst e; rw [hfree] at hb; cases hb
      rw [hOne b this]
      exact ⟨hb, hne b this⟩
    · have : X.bl j ≠ X.w.heap.size := by intro e; rw [e, hfree] at hOj; cases hOj
      exact ⟨(hOne _ this).trans hOj, hne _ this⟩
  refine ⟨X', rfl, rfl, upd_eq _ _ _, ⟨fun j hj => h.dead j hj, fun b hb => ?_, fun j cs1 hj => ?_, gbox_same h he fun j v e rows hj => ⟨hj, rfl, fun hOj => ?_⟩, obj_same h he fun j o hj => ⟨hj, rfl, fun hOj => ?_⟩⟩, he⟩
  · have hb' : (X.w.heap.push (Obj.cells cells ty (0, 0))).size ≤ b := hb
    rw [Array.size_push] at hb'
    rw [hOne b (by omega)]
    exact h.free b (by omega)
  · obtain ⟨h1, us1, ty1, h2, h3, h4⟩ := h.box j cs1 hj
    have : X.bl j ≠ X.w.heap.size := by intro e2; rw [e2] at h1; rw [hfree] at h1; cases h1
    show X'.O (X.bl j) = _ ∧ _
    rw [hOne _ this]
    exact ⟨h1, us1, ty1, (hne _ this).trans h2, RowRep.mono he _ _ h3, h4⟩
  · have : X.bl j ≠ X.w.heap.size := by intro e; rw [e, hfree] at hOj; cases hOj
    exact ⟨(hOne _ this).trans hOj, hne _ this⟩
  · have : X.bl j ≠ X.w.heap.size := by intro e; rw [e, hfree] at hOj; cases hOj
    exact ⟨(hOne _ this).trans hOj, hne _ this⟩
theorem drew_st {n : Nat} {X : Ctx} (h : R n X) (d : Nat) : R n { X with w := { X.w with drawn := d } } ∧ Ext X { X with w := { X.w with drawn := d } } := by
  have he : Ext X { X with w := { X.w with drawn := d } } := ⟨fun b o hs => ⟨hs, rfl⟩, fun j hj => ⟨hj, rfl⟩, fun j m hj => ⟨m, hj, Nat.le_refl _, fun _ b st arr ty h1 h2 => ⟨h1, arr, h2, rfl⟩⟩, fun b hb => ⟨hb, rfl⟩, gc_same fun j v e rows hj => ⟨hj, rfl, fun hOj => ⟨hOj, rfl⟩⟩, rfl, rfl, rfl, Nat.le_refl _⟩
  refine ⟨⟨h.dead, h.free, fun j cs hj => ?_, gbox_same h he fun j v e rows hj => ⟨hj, rfl, fun hOj => ⟨hOj, rfl⟩⟩, obj_same h he fun j o hj => ⟨hj, rfl, fun hOj => ⟨hOj, rfl⟩⟩⟩, he⟩;obtain ⟨h1, us, ty, h2, h3, h4⟩ := h.box j cs hj;exact ⟨h1, us, ty, h2, RowRep.mono he _ _ h3, h4⟩
def aggD : TypeDesc → Bool
  | .struct _ | .array _ _ => true
  | _ => false
def AggT (P : Program) (t : TypeId) (m : Nat) : Prop := (∃ d, P.underlying t = some d ∧ aggD d = true) ∧ (P.info? t).map (·.size) = some m
def OneT (P : Program) (t : TypeId) : Prop := (∃ d, P.underlying t = some d ∧ aggD d = false) ∧ (P.info? t).map (·.size) = some 1
def ResV (P : Program) (s : S) : List ResultVar → List V → Prop
  | [], vs => vs = []
  | .tmp t :: rs, vs => ∃ vs', vs = s.t t :: vs' ∧ ResV P s rs vs'
  | .cell t ty :: rs, vs => ∃ k cs vs' v, vs = v :: vs' ∧ s.t t = .ref k 0 ∧ s.bx k = .cells cs ∧ (AggT P ty cs.length ∧ v = .agg cs ∨ OneT P ty ∧ cs[0]? = some v) ∧ ResV P s rs vs'
def retV : List V → V
  | [v] => v
  | vs => .tup vs
theorem run_results {P : Program} {B : Bas} {N : Nat} {s : S} {X : Ctx} {a : Act} (hs : St B N s X a) : ∀ {rs : List ResultVar} {vs : List V}, ResV P s rs vs →
    ∃ us, (rs.mapM (m := Sem) fun | .tmp t => pure (a.tmps.getD t undef) | .cell q t => do loadVar t (← asAddr (a.tmps.getD q undef))).run P X.w = .ok us X.w ∧ RowRep X vs us
  | [], vs, h => by simp only [ResV] at h; subst h; exact ⟨[], by simp, by simp [RowRep]⟩
  | .tmp t :: rs, vs, h => by
    simp only [ResV] at h
    obtain ⟨vs', rfl, h⟩ := h
    obtain ⟨us, h1, h2⟩ := run_results hs h
    refine ⟨a.tmps.getD t undef :: us, ?_, ?_⟩
    · rw [List.mapM_cons]
      simp only [Sem.run_bind, Sem.run_pure, Result.andThen_ok, h1]
    · simp only [RowRep]; exact ⟨_, us, rfl, hs.t t, h2⟩
  | .cell t ty :: rs, vs, h => by
    simp only [ResV] at h
    obtain ⟨k, cs, vs', v, rfl, hk, hc, hcase, h⟩ := h
    obtain ⟨us, h1, h2⟩ := run_results hs h
    have hv := hs.t t
    rw [hk] at hv
    simp only [VRep] at hv
    have hX : X.bx k = .cells cs := by rw [hs.bx]; exact hc
    obtain ⟨hO, us0, ty0, hh, hr, ho1⟩ := hs.rr.box k cs hX
    have hl := hr.length
    have e1 : asAddr (.pointer (some ⟨X.bl k, 0, none⟩)) = (pure ⟨X.bl k, 0, none⟩ : Sem Addr) := rfl
    rcases hcase with ⟨⟨⟨d, hd, hd'⟩, hsz⟩, rfl⟩ | ⟨⟨⟨d, hd, hd'⟩, _⟩, hv0⟩
    rotate_left
    · obtain ⟨u0, g1, g2⟩ := RowRep.get 0 hr hv0
      refine ⟨u0 :: us, ?_, ?_⟩
      · rw [List.mapM_cons]
        have hcell : X.w.cell? ⟨X.bl k, 0, none⟩ = some u0 := by
          rw [cell_of_row X.w (X.bl k) 0 _ _ _ hh]; simpa using g1
        have hag : (isAgg ty).run P X.w = .ok (aggD d) X.w := by
          unfold isAgg
          rw [Sem.run_bind, run_underlying hd X.w]
          cases d <;> rfl
        have hld : (loadVar ty ⟨X.bl k, 0, none⟩).run P X.w = .ok u0 X.w := by simp [loadVar, Sem.run_bind, hag, hd', load, Sem.run, hcell]
        simp only [Sem.run_bind, hv.2, e1, Sem.run_pure, Result.andThen_ok, hld, h1]
      · simp only [RowRep]
        exact ⟨_, us, rfl, g2, h2⟩
    refine ⟨.agg us0.toArray :: us, ?_, ?_⟩
    · rw [List.mapM_cons]
      have := run_loadVar_row (P := P) X.w (X.bl k) ty0 ty us0.toArray (0, 0) d hh hd (by cases d <;> simp_all [aggD]) (by simpa [hl] using hsz)
      simp only [Sem.run_bind, hv.2, e1, Sem.run_pure, Result.andThen_ok, this, h1]
    · simp only [RowRep]
      exact ⟨_, us, rfl, by simp only [VRep]; exact ⟨us0, rfl, hr, ho1⟩, h2⟩
theorem results_run {P : Program} {B : Bas} {N : Nat} {s : S} {X : Ctx} {a : Act} {fn : Func} {vs : List V} (hs : St B N s X a) (h : ResV P s fn.results.toList vs) :
    ∃ u, (results fn a.tmps).run P X.w = .ok u X.w ∧ VRep X (retV vs) u := by
  obtain ⟨us, h1, h2⟩ := run_results hs h
  have hl := h2.length
  have hr : (results fn a.tmps).run P X.w = .ok (if h : us.toArray.size = 1 then us.toArray[0] else .tuple us.toArray) X.w := by
    unfold results
    rw [Array.mapM_eq_mapM_toList]
    simp only [Sem.run_bind, map_eq_pure_bind, Sem.run_pure, Result.andThen_ok]
    erw [h1]
    rfl
  rw [hr]
  refine ⟨_, rfl, ?_⟩
  match vs, us, hl, h2 with
  | [v], [u], _, h2 =>
    simp only [RowRep] at h2
    obtain ⟨u', us', h3, h4, rfl⟩ := h2
    cases h3
    simpa [retV] using h4
  | [], [], _, _ => simp [retV, VRep, RowRep]
  | v1 :: v2 :: vs, u1 :: u2 :: us, _, h2 =>
    simp only [retV, VRep]
    exact ⟨u1 :: u2 :: us, by simp, h2⟩
theorem VLess.refl : ∀ xs : List (List V), VLess xs xs
  | [] => .nil
  | r :: rs => .cons (by induction r with | nil => exact .nil | cons v vs ih => exact .cons (VLe.refl _) ih) (VLess.refl rs)
theorem bdL_append {n : Nat} : ∀ {a b : List V}, bdL n (a ++ b) ↔ bdL n a ∧ bdL n b
  | [], b => by simp [bdL]
  | v :: a, b => by simp only [List.cons_append, bdL, bdL_append (a := a), and_assoc]
theorem bdR_flat {n : Nat} : ∀ {xs : List (List V)}, bdL n xs.flatten → bdR n xs
  | [], _ => by simp [bdR]
  | r :: rs, h => by
    rw [List.flatten_cons, bdL_append] at h
    simp only [bdR]
    exact ⟨h.1, bdR_flat h.2⟩
theorem bdL_flat {n : Nat} : ∀ {xs : List (List V)}, bdR n xs → bdL n xs.flatten
  | [], _ => by simp [bdL]
  | r :: rs, h => by
    simp only [bdR] at h
    rw [List.flatten_cons, bdL_append]
    exact ⟨h.1, bdL_flat h.2⟩
def Fin (P : Program) (n : Nat) (bx : Nat → Box) (up : List (Nat × Box)) (r : V) (rs : List ResultVar) (s : S) : Prop :=
  (∃ vs, ResV P s rs vs ∧ VLe (retV vs) r ∧ r.bd n) ∧ (∀ k, k < n → BoxLe (s.bx k) (upds bx up k)) ∧ (∀ p ∈ up, ∀ cs, p.2 = .cells cs → bdL n cs) ∧ ∀ p ∈ up, ∀ v e rows, p.2 = .gcells v e rows → bdR n rows
theorem upds_mem {α : Type} : ∀ (l : List (Nat × α)) (f : Nat → α) (i : Nat), upds f l i = f i ∨ ∃ p ∈ l, p.1 = i ∧ upds f l i = p.2
  | [], f, i => .inl rfl
  | (k, v) :: l, f, i => by
    rcases upds_mem l (upd f k v) i with h | ⟨p, h1, h2, h3⟩
    · by_cases e : i = k
      · subst e; exact .inr ⟨(i, v), List.mem_cons_self .., rfl, by rw [upds, h, upd_eq]⟩
      · exact .inl (by rw [upds, h, upd_ne _ _ _ _ e])
    · exact .inr ⟨p, List.mem_cons_of_mem _ h1, h2, h3⟩
theorem getD_rep {X : Ctx} : ∀ (vs : List V) (us : List Value) (m i : Nat), RowRep X vs us → VRep X (vs.getD i .junk) ((us ++ List.replicate m undef).getD i undef) := by
  intro vs us m i h
  by_cases hi : i < vs.length
  · obtain ⟨u, h1, h2⟩ := RowRep.get (v := vs[i]) i h (List.getElem?_eq_getElem hi)
    have e1 : vs.getD i .junk = vs[i] := by simp [List.getD, List.getElem?_eq_getElem hi]
    have e2 : (us ++ List.replicate m undef).getD i undef = u := by
      rw [List.getD, List.getElem?_append_left (by rw [← h.length]; exact hi), h1]; rfl
    rw [e1, e2]; exact h2
  · have e1 : vs.getD i .junk = .junk := by simp [List.getD, List.getElem?_eq_none (Nat.le_of_not_lt hi)]
    rw [e1]; simp [VRep]
section
variable {X : Ctx} {b : Nat} {o : Obj}
theorem cell_putObj (hb : ∀ q, X.w.heap[b]? = some q → q.isCells = false) {d c : Nat} {u : Value} (h : X.w.cell? ⟨d, c, none⟩ = some u) : (X.w.putObj b o).cell? ⟨d, c, none⟩ = some u := by
  have hne : d ≠ b := by
    intro e; subst e
    unfold World.cell? at h
    split at h
    · rename_i c' e' f' hq; have := hb _ hq; cases this
    · cases h
  exact (World.cell?_of_block (w := X.w) (a := ⟨d, c, none⟩) (World.putObj_heap_other hne)).trans h
theorem heap_putObj (hb : ∀ q, X.w.heap[b]? = some q → q.isCells = false) {d : Nat} {arr : Array Value} {ty : TypeId} {f : Nat × Nat} (h : X.w.heap[d]? = some (.cells arr ty f)) : (X.w.putObj b o).heap[d]? = some (.cells arr ty f) := by
  have hne : d ≠ b := by intro e; subst e; have := hb _ h; cases this
  exact (World.putObj_heap_other hne).trans h
mutual
theorem VRep.objp (hb : ∀ q, X.w.heap[b]? = some q → q.isCells = false) : ∀ (v : V) (u : Value), VRep X v u → VRep { X with w := X.w.putObj b o } v u
  | .junk, _, _ => by simp [VRep]
  | .sc v, u, hv => by simpa [VRep] using hv
  | .ref k o, u, hv => by simpa only [VRep] using hv
  | .ro row, u, hv => by
    simp only [VRep] at hv ⊢
    obtain ⟨b, o, h1, h2⟩ := hv
    exact ⟨b, o, h1, CellsAt.objp hb row b o h2⟩
  | .sl e xs, u, hv => by
    simp only [VRep] at hv ⊢
    obtain ⟨a, c, h1, h2, h3⟩ := hv
    exact ⟨a, c, h1, h2, h3.imp id fun ⟨b, o, h4, h5⟩ => ⟨b, o, h4, RowsAt.objp hb e xs b o h5⟩⟩
  | .fl e xs, u, hv => by
    simp only [VRep] at hv ⊢
    obtain ⟨a, h1, h3⟩ := hv
    exact ⟨a, h1, h3.imp id fun ⟨b, o, h4, h5⟩ => ⟨b, o, h4, RowsAt.objp hb e xs b o h5⟩⟩
  | .own e xs k, u, hv => by
    simp only [VRep] at hv ⊢
    obtain ⟨a, c, h1, h2, h3, n, h6, h7, h8⟩ := hv
    refine ⟨a, c, h1, h2, h3.imp id fun ⟨b, o, h4, h5⟩ => ⟨b, o, h4, RowsAt.objp hb e xs b o h5⟩, n, h6, h7, fun hn => ?_⟩;refine (h8 hn).imp id fun ⟨b, o, st, arr, ty, k1, k2, k3, k4, k5⟩ => ?_
    exact ⟨b, o, st, arr, ty, k1, k2, k3, heap_putObj hb k4, k5⟩
  | .msl k o len cap e, u, hv => by simpa only [VRep] using hv
  | .fn f cap, u, hv => by
    simp only [VRep] at hv ⊢
    obtain ⟨us, h1, h2⟩ := hv
    exact ⟨us, h1, RowRep.objp hb cap us h2⟩
  | .gsl k ver q len e, u, hv => by
    simp only [VRep] at hv ⊢
    obtain ⟨a, c, v', e0, rows, h1, h0, h2, h3, h4⟩ := hv
    refine ⟨a, c, v', e0, rows, h1, h0, h2, h3, fun hv => ?_⟩;exact (h4 hv).imp id fun ⟨k1, k2, us, ty, k3, k4⟩ => ⟨k1, k2, us, ty, heap_putObj hb k3, k4⟩
  | .gref k ver o, u, hv => by simpa only [VRep] using hv
  | .agg cs, u, hv => by
    simp only [VRep] at hv ⊢
    obtain ⟨us, h1, h2, h3⟩ := hv
    exact ⟨us, h1, RowRep.objp hb cs us h2, h3⟩
  | .tup cs, u, hv => by
    simp only [VRep] at hv ⊢
    obtain ⟨us, h1, h2⟩ := hv
    exact ⟨us, h1, RowRep.objp hb cs us h2⟩
theorem RowRep.objp (hb : ∀ q, X.w.heap[b]? = some q → q.isCells = false) : ∀ (vs : List V) (us : List Value), RowRep X vs us → RowRep { X with w := X.w.putObj b o } vs us
  | [], us, hv => by simpa [RowRep] using hv
  | v :: vs, us, hv => by
    simp only [RowRep] at hv ⊢
    obtain ⟨u, us', h1, h2, h3⟩ := hv
    exact ⟨u, us', h1, VRep.objp hb v u h2, RowRep.objp hb vs us' h3⟩
theorem CellsAt.objp (hb : ∀ q, X.w.heap[b]? = some q → q.isCells = false) : ∀ (vs : List V) (d c : Nat), CellsAt X vs d c → CellsAt { X with w := X.w.putObj b o } vs d c
  | [], d, c, hv => by simp [CellsAt]
  | v :: vs, d, c, hv => by
    simp only [CellsAt] at hv ⊢
    obtain ⟨⟨u, h1, h2, h3, h5⟩, h4⟩ := hv
    exact ⟨⟨u, cell_putObj hb h1, VRep.objp hb v u h2, h3, h5⟩, CellsAt.objp hb vs d (c + 1) h4⟩
theorem RowsAt.objp (hb : ∀ q, X.w.heap[b]? = some q → q.isCells = false) (e : Nat) : ∀ (vs : List (List V)) (d c : Nat), RowsAt X e vs d c → RowsAt { X with w := X.w.putObj b o } e vs d c
  | [], d, c, hv => by simp [RowsAt]
  | r :: rs, d, c, hv => by
    simp only [RowsAt] at hv ⊢
    exact ⟨hv.1, CellsAt.objp hb r d c hv.2.1, RowsAt.objp hb e rs d (c + e) hv.2.2⟩
end
theorem R.objp {n : Nat} (h : R n X) (hO : X.O b = .frz) (hb : ∀ q, X.w.heap[b]? = some q → q.isCells = false) : R n { X with w := X.w.putObj b o } := by
  refine ⟨h.dead, fun d hd => h.free d (by simpa using hd), fun k cs hk => ?_, fun k v e rows hk => ?_, fun k q hk => ?_⟩
  · obtain ⟨h1, us, ty, h2, h3, h4⟩ := h.box k cs hk
    exact ⟨h1, us, ty, heap_putObj hb h2, RowRep.objp hb _ _ h3, h4⟩
  · obtain ⟨g1, g2⟩ := h.gbox k v e rows hk
    exact ⟨g1, g2.imp id fun ⟨j1, us, rest, ty, j2, j3, j4, j5⟩ => ⟨j1, us, rest, ty, heap_putObj hb j2, RowRep.objp hb _ _ j3, j4, j5⟩⟩
  · obtain ⟨g1, g2, g3⟩ := h.obj k q hk
    have : X.bl k ≠ b := by intro e; rw [e, hO] at g1; cases g1
    exact ⟨g1, (World.putObj_heap_other this).trans g2, g3⟩
theorem Ext.objp {C : Ctx} (h : Ext C X) (hC : C.O b = .free) (hb : ∀ q, X.w.heap[b]? = some q → q.isCells = false) : Ext C { X with w := X.w.putObj b o } := by
  refine ⟨fun d c hs => ?_, h.box, fun k m hk => ?_, fun d hd => ?_, fun k v e rows hk => ?_, h.os, h.tape, h.output, by simpa using h.size⟩
  · obtain ⟨g1, g2⟩ := h.stb d c hs
    have : d ≠ b := by intro e; subst e; rw [hC] at hs; exact hs
    exact ⟨g1, (World.cell?_of_block (w := X.w) (a := ⟨d, c, none⟩) (World.putObj_heap_other this)).trans g2⟩
  · obtain ⟨m', h1, h2, h3⟩ := h.tail k m hk
    refine ⟨m', h1, h2, fun hm d st arr ty k1 k2 => ?_⟩;obtain ⟨g1, arr', g2, g3⟩ := h3 hm d st arr ty k1 k2;exact ⟨g1, arr', heap_putObj hb g2, g3⟩
  · obtain ⟨g1, g2⟩ := h.frz d hd
    have : d ≠ b := by intro e; subst e; rw [hC] at hd; cases hd
    exact ⟨g1, (World.putObj_heap_other this).trans g2⟩
  · obtain ⟨v', rows', h1, h2, h3⟩ := h.gc k v e rows hk
    refine ⟨v', rows', h1, h2, fun hv => ⟨(h3 hv).1, fun hO => ?_⟩⟩;obtain ⟨g1, g2⟩ := (h3 hv).2 hO;refine ⟨g1, fun us ty hu => ?_⟩;obtain ⟨us', k1, k2⟩ := g2 us ty hu;exact ⟨us', heap_putObj hb k1, k2⟩
end
theorem trim {n n' : Nat} {C X' : Ctx} {g : Nat → Box} (hR : R n C) (hR' : R n' X') (e : Ext C X') (hg0 : ∀ k, n ≤ k → g k = .dead) (hgc : ∀ k cs, g k = .cells cs → bdL n cs) (hgg : ∀ k v e rows, g k = .gcells v e rows → bdR n rows)
    (hle : ∀ k, k < n → BoxLe (X'.bx k) (g k)) : ∃ X2, X2.w = X'.w ∧ X2.bl = X'.bl ∧ X2.O = X'.O ∧ X2.bx = g ∧ R n X2 ∧ Ext C X2 ∧ ∀ v u, v.bd n → VRep X' v u → VRep X2 v u := by
  let X2 : Ctx := { X' with bx := g }
  have hX2 : ∀ k, k < n → SameK (X'.bx k) (X2.bx k) := fun k hk => (hle k hk).same
  have hlt : ∀ k, g k ≠ .dead → k < n := fun k h => Nat.lt_of_not_le fun hn => h (hg0 k hn)
  refine ⟨X2, rfl, rfl, rfl, rfl, ⟨hg0, hR'.free, fun k cs hk => ?_, fun k v e rows hk => ?_, fun k o hk => ?_⟩, ?_, fun v u hv h => VRep.cut (X := X') (X' := X2) rfl rfl rfl hX2 v u hv h⟩
  · have hk' : g k = .cells cs := hk
    have hle' := hle k (hlt k (by rw [hk']; intro h; cases h))
    rw [hk'] at hle'
    have hfull : ∃ cs0, X'.bx k = .cells cs0 ∧ ∀ us, RowRep X' cs0 us → RowRep X' cs us := by
      rcases hle' with h1 | ⟨c0, c1, h1, h2, h3⟩ | ⟨v0, e0, r0, r1, h1, h2, h3⟩
      · exact ⟨cs, h1, fun _ h => h⟩
      · cases h2; exact ⟨c0, h1, fun _ h => h3.row h⟩
      · cases h2
    obtain ⟨cs0, h0, hrow⟩ := hfull
    obtain ⟨h1, us, ty, h2, h3, h4⟩ := hR'.box k cs0 h0
    exact ⟨h1, us, ty, h2, RowRep.cut (X := X') (X' := X2) rfl rfl rfl hX2 _ _ (hgc k cs hk') (hrow _ h3), h4⟩
  · have hk' : g k = .gcells v e rows := hk
    have hle' := hle k (hlt k (by rw [hk']; intro h; cases h))
    rw [hk'] at hle'
    have hfull : ∃ rows0, X'.bx k = .gcells v e rows0 ∧ (VLess rows0 rows ∨ rows = []) := by
      rcases hle' with h1 | ⟨c0, c1, h1, h2, h3⟩ | ⟨v0, e0, r0, r1, h1, h2, h3⟩
      · exact ⟨rows, h1, .inl (VLess.refl _)⟩
      · cases h2
      · cases h2; exact ⟨r0, h1, h3⟩
    obtain ⟨rows0, h0, hrow⟩ := hfull
    obtain ⟨g1, g2⟩ := hR'.gbox k v e rows0 h0
    rcases hrow with hrow | rfl
    · refine ⟨hrow.lens g1, ?_⟩
      rcases g2 with rfl | ⟨j1, us, rest, ty, j2, j3, j4, j5⟩
      · cases hrow; exact .inl rfl
      · exact .inr ⟨j1, us, rest, ty, j2, RowRep.cut (X := X') (X' := X2) rfl rfl rfl hX2 _ _ (bdL_flat (hgg k v e rows hk')) (hrow.flat.row j3), by rw [j4, hrow.length], j5⟩
    · exact ⟨by simp, .inl rfl⟩
  · have hk' : g k = .obj o := hk
    have hle' := hle k (hlt k (by rw [hk']; intro h; cases h))
    rw [hk'] at hle'
    have h0 : X'.bx k = .obj o := by
      rcases hle' with h1 | ⟨c0, c1, h1, h2, h3⟩ | ⟨v0, e0, r0, r1, h1, h2, h3⟩
      · exact h1
      · cases h2
      · cases h2
    exact hR'.obj k o h0
  · refine ⟨e.stb, fun k hk => ?_, fun k m hk => ?_, e.frz, fun k v e0 rows hk => ?_, e.os, e.tape, e.output, e.size⟩
    · exact ⟨(hX2 k (is_lt hR hk)).1 (e.box k hk).1, (e.box k hk).2⟩
    · have hkn : k < n := Nat.lt_of_not_le fun hn => by rw [hR.dead k hn] at hk; cases hk
      obtain ⟨m', h1, h2, h3⟩ := e.tail k m hk
      exact ⟨m', (hX2 k hkn).2.1 m' h1, h2, h3⟩
    · have hkn : k < n := Nat.lt_of_not_le fun hn => by rw [hR.dead k hn] at hk; cases hk
      obtain ⟨v', rows', h1, h2, h3⟩ := e.gc k v e0 rows hk
      obtain ⟨rows2, h4⟩ := (hX2 k hkn).2.2 v' e0 rows' h1
      exact ⟨v', rows2, h4, h2, h3⟩
theorem upds_bd {n : Nat} {C : Ctx} {up : List (Nat × Box)} (hR : R n C) (hup : ∀ p ∈ up, p.1 < n) (hupb : ∀ p ∈ up, ∀ cs, p.2 = .cells cs → bdL n cs) (hupg : ∀ p ∈ up, ∀ v e rows, p.2 = .gcells v e rows → bdR n rows) :
    (∀ k, n ≤ k → upds C.bx up k = .dead) ∧ (∀ k cs, upds C.bx up k = .cells cs → bdL n cs) ∧ ∀ k v e rows, upds C.bx up k = .gcells v e rows → bdR n rows := by
  refine ⟨fun k hk => ?_, fun k cs hk => ?_, fun k v e rows hk => ?_⟩
  · rw [upds_not _ _ _ (fun p hp e => by have := hup p hp; omega), hR.dead k hk]
  · rcases upds_mem up C.bx k with h1 | ⟨p, h1, h2, h3⟩
    · obtain ⟨_, us, _, _, h3, _⟩ := hR.box k cs (h1 ▸ hk); exact RowRep.bd hR _ _ h3
    · exact hupb p h1 cs (h3 ▸ hk)
  · rcases upds_mem up C.bx k with h1 | ⟨p, h1, h2, h3⟩
    · obtain ⟨g1, g2⟩ := hR.gbox k v e rows (h1 ▸ hk)
      rcases g2 with rfl | ⟨_, us, _, _, _, h3, _⟩
      · simp [bdR]
      · exact bdR_flat (RowRep.bd hR _ _ h3)
    · exact hupg p h1 v e rows (h3 ▸ hk)
theorem fin_end {P : Program} {n N : Nat} {X : Ctx} {B : Bas} {fn : Func} {up : List (Nat × Box)} {r : V} {s' : S} {X' : Ctx} {a' : Act} (hR : R n X) (hup : ∀ p ∈ up, p.1 < n) (hB : B.c = X) (hs' : St B N s' X' a') (hfin : Fin P n X.bx up r fn.results.toList s') :
    ∃ v, (results fn a'.tmps).run P X'.w = .ok v X'.w ∧ ∃ X3 u', Ending.returned v = .returned u' ∧ VRep X3 r u' ∧ X3.bx = upds X.bx up ∧ R n X3 ∧ Ext X X3 ∧ X3.w = X'.w := by
  obtain ⟨⟨vs', hres, hle, hrb⟩, hbx', hupb, hupg⟩ := hfin
  obtain ⟨u, hru, hvu⟩ := results_run (fn := fn) hs' hres
  obtain ⟨b1, b2, b3⟩ := upds_bd hR hup hupb hupg
  obtain ⟨X2, x1, _, _, x2, x3, x4, x5⟩ := trim hR hs'.rr (hB ▸ hs'.ext) b1 b2 b3 (fun k hk => by rw [hs'.bx]; exact hbx' k hk)
  exact ⟨u, hru, X2, u, rfl, x5 _ _ hrb (hle _ _ hvu), x2, x3, x4, x1⟩
theorem leaves_marks {P : Program} {fn : Func} {tmps : Array Value} {Rr : Ending → World → Prop} {n : Nat} {C : Ctx} : ∀ (ms : List Nat) (X : Ctx), ms.Nodup → R n X → Ext C X → (∀ D ∈ ms, C.O D = .free ∧ X.O D = .frz ∧ X.w.heap[D]? = some (.deferred (some []))) →
    (∀ X', R n X' → Ext C X' → X'.bx = X.bx → (∀ v u, VRep X v u → VRep X' v u) → LeavesIn Fence.wide 0 P fn tmps Rr [] .returning X'.w) → LeavesInM Fence.wide 0 P fn tmps Rr (ms.map markD) .returning X.w
  | [], X, _, hR, he, _, h => h X hR he rfl (fun _ _ h => h)
  | D :: ms, X, hn, hR, he, hm, h => by
    obtain ⟨g1, g2, g3⟩ := hm D (List.mem_cons_self ..)
    have hb : ∀ q, X.w.heap[D]? = some q → q.isCells = false := fun q hq => by rw [g3] at hq; cases hq; rfl
    refine ⟨by simp, .inl ⟨D, _, rfl, run_takeDeferred g3, ?_⟩⟩;have hn' := List.nodup_cons.1 hn;refine leaves_marks ms { X with w := X.w.putObj D (.deferred none) } hn'.2 (hR.objp g2 hb) (he.objp g1 hb) (fun D' hD' => ?_) (fun X' k1 k2 k3 k4 => h X' k1 k2 k3 fun v u hv => k4 v u (VRep.objp hb v u hv));obtain ⟨j1, j2, j3⟩ := hm D' (List.mem_cons_of_mem _ hD');have : D' ≠ D := by intro e; subst e; exact hn'.1 hD'
    exact ⟨j1, j2, (World.putObj_heap_other this).trans j3⟩
structure Outer (B : Bas) : Prop where
  R : B.R = none
  mks : B.mks = true
  free : ∀ b, B.c.w.heap.size ≤ b → B.c.O b = .free
theorem does_intro {P : Program} {f : FuncId} {fn : Func} {c : Code} {vs : List V} {pre up : List (Nat × Box)} {r : V} (hf : P.funcs[f]? = some fn) (hb : fn.body = some c) (hl : vs.length ≤ fn.ntmps)
    (h : ∀ n B bx, (∀ k, n ≤ k → bx k = .dead) → (∀ p ∈ pre, bx p.1 = p.2) → (∀ p ∈ up, p.1 < n) → bdL n vs → (∀ k cs, bx k = .cells cs → bdL n cs) → (∀ k v e rows, bx k = .gcells v e rows → bdR n rows) → Outer B →
      Runs P B fn.ntmps c ⟨fun i => vs.getD i .junk, n, bx⟩ (fun e s => (e = .normal ∨ e = .ret) ∧ Fin P n bx up r fn.results.toList s)) : Does P f vs pre up r := by
  intro n X args hR hargs hpre hup
  have hbx : ∀ k cs, X.bx k = .cells cs → bdL n cs := fun k cs hk => by obtain ⟨_, us, _, _, h3, _⟩ := hR.box k cs hk; exact RowRep.bd hR _ _ h3
  have hgx : ∀ k v e rows, X.bx k = .gcells v e rows → bdR n rows := fun k v e rows hk => by
    obtain ⟨g1, g2⟩ := hR.gbox k v e rows hk
    rcases g2 with rfl | ⟨_, us, _, _, _, h3, _⟩
    · simp [bdR]
    · exact bdR_flat (RowRep.bd hR _ _ h3)
  refine (callsIn_wide (n := 0)).1 (callsIn_of_wp_marks hf hb trivial ?_);have hlen : args.size = vs.length := by have := hargs.length; simpa using this.symm
  have hst : St (base X) fn.ntmps ⟨fun i => vs.getD i .junk, n, X.bx⟩ X { tmps := args ++ Array.replicate (fn.ntmps - args.size) undef, defers := [] } := by
    refine ⟨hR, rfl, fun i => ?_, ?_, .nil rfl, Ext.refl X⟩
    · have := getD_rep vs args.toList (fn.ntmps - args.size) i hargs
      simpa [List.getD_eq_getElem?_getD, Array.getElem?_append, List.getElem?_append, Array.getElem?_replicate, List.getElem?_replicate] using this
    · simp; omega
  refine wpIn_mono (h n (base X) X.bx hR.dead hpre hup (RowRep.bd hR _ _ hargs) hbx hgx ⟨rfl, rfl, hR.free⟩ X _ hst) ?_
  rintro e a' w' (⟨s', X', ⟨he, hfin⟩, rfl, hs'⟩ | ⟨_, hE⟩)
  rotate_left
  · exact hE.elim
  obtain ⟨ms, _, m2, m3, m4⟩ := hs'.defers
  have m3' : a'.defers = ms.map markD := by rw [m3]; exact List.append_nil _
  have key : LeavesInM Fence.wide 0 P fn a'.tmps (fun e w' => ∃ X' u, e = .returned u ∧ VRep X' r u ∧ X'.bx = upds X.bx up ∧ R n X' ∧ Ext X X' ∧ X'.w = w') (ms.map markD) .returning X'.w := by
    refine leaves_marks (n := s'.n) (C := X) ms X' m2 hs'.rr hs'.ext m4 (fun X'' k1 k2 k3 k4 => ?_);have hs2 : St (base X) fn.ntmps s' X'' { a' with defers := [] } := ⟨k1, k3.trans hs'.bx, fun i => k4 _ _ (hs'.t i), hs'.N, .nil rfl, k2⟩;obtain ⟨v, h1, X3, u', h2, h3, h4, h5, h6, h7⟩ := fin_end hR hup rfl hs2 hfin;exact ⟨v, h1, X3, u', h2, h3, h4, h5, h6, h7⟩
  rw [← m3'] at key
  rcases he with rfl | rfl
  · exact key
  · exact key
end Go.Vm
