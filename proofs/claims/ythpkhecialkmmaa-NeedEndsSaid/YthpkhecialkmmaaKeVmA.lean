/- A logic of values over the model: states told by values and boxes, not by memory. Part A: what a state is, and that it stays. -/
import Derived.Orders
import Derived.Tactics
import Derived.Below
import Derived.RangeFuncOwn
set_option linter.unusedVariables false
set_option linter.unusedSimpArgs false
namespace Go.Vm

/-- A value as it is told. -/
inductive V where
  | junk
  | sc (v : Value)
  | ref (k o : Nat)
  | ro (row : List V)
  | sl (e : Nat) (xs : List (List V))
  | fl (e : Nat) (xs : List (List V))
  | own (e : Nat) (xs : List (List V)) (k : Nat)
  | msl (k o len cap e : Nat)
  | fn (f : FuncId) (cap : List V)
  | gsl (k ver q len e : Nat)
  | gref (k ver o : Nat)
  | agg (cs : List V)
  | tup (vs : List V)
  deriving Inhabited
/-- What an entry is: nothing yet, a box of cells, the end of a slice that can grow. -/
inductive Box where
  | dead
  | cells (cs : List V)
  | tail (n : Nat)
  | gcells (ver e : Nat) (rows : List (List V))
  | obj (o : Obj)
  deriving Inhabited
/-- Whose a block of memory is. -/
inductive Own where
  | free
  | frz
  | box (k : Nat)
  | grow (k st : Nat)
/-- The value of one cell. -/
def oneV : Value → Bool
  | .agg _ => false
  | .tuple _ => false
  | _ => true
structure Ctx where
  O : Nat → Own
  bl : Nat → Nat
  bx : Nat → Box
  w : World
/-- A cell that nobody writes any more. -/
def Stb : Own → Nat → Prop
  | .frz, _ => True
  | .grow _ st, o => o < st
  | _, _ => False
def Box.is : Box → Prop
  | .cells _ => True
  | .obj _ => True
  | _ => False
mutual
def VRep (X : Ctx) : V → Value → Prop
  | .junk, _ => True
  | .sc v, u => u = v
  | .ref k o, u => (X.bx k).is ∧ u = .pointer (some ⟨X.bl k, o, none⟩)
  | .ro row, u => ∃ b o, u = .pointer (some ⟨b, o, none⟩) ∧ CellsAt X row b o
  | .sl e xs, u => ∃ a c, u = .slice a xs.length c ∧ xs.length ≤ c ∧ (xs = [] ∨ ∃ b o, a = some ⟨b, o, none⟩ ∧ RowsAt X e xs b o)
  | .fl e xs, u => ∃ a, u = .slice a xs.length xs.length ∧ (xs = [] ∨ ∃ b o, a = some ⟨b, o, none⟩ ∧ RowsAt X e xs b o)
  | .own e xs k, u => ∃ a c, u = .slice a xs.length c ∧ xs.length ≤ c ∧ (xs = [] ∨ ∃ b o, a = some ⟨b, o, none⟩ ∧ RowsAt X e xs b o) ∧
      ∃ n, X.bx k = .tail n ∧ xs.length ≤ n ∧ (xs.length = n → c = xs.length ∨ ∃ b o st arr ty, a = some ⟨b, o, none⟩ ∧ X.O b = .grow k st ∧ o + xs.length * e = st ∧ X.w.heap[b]? = some (.cells arr ty (0, 0)) ∧ o + c * e ≤ arr.size)
  | .msl k o len cap e, u => (X.bx k).is ∧ u = .slice (some ⟨X.bl k, o, none⟩) len cap
  | .fn f cap, u => ∃ us, u = .func (.func f) #[] us.toArray ∧ RowRep X cap us
  | .gsl k ver q len e, u => ∃ a c v' e0 rows, u = .slice a len c ∧ len ≤ c ∧ X.bx k = .gcells v' e0 rows ∧ ver ≤ v' ∧ (v' = ver → c = 0 ∨
      (a = some ⟨X.bl k, q * e, none⟩ ∧ X.O (X.bl k) = .box k ∧ ∃ us ty, X.w.heap[X.bl k]? = some (.cells us ty (0, 0)) ∧ (q + c) * e ≤ us.size))
  | .gref k ver o, u => ∃ ad v' e rows, u = .pointer (some ad) ∧ X.bx k = .gcells v' e rows ∧ ver ≤ v' ∧ (v' = ver → ad = ⟨X.bl k, o, none⟩)
  | .agg cs, u => ∃ us, u = .agg us.toArray ∧ RowRep X cs us ∧ ∀ x ∈ us, oneV x = true
  | .tup vs, u => ∃ us, u = .tuple us.toArray ∧ RowRep X vs us
def RowRep (X : Ctx) : List V → List Value → Prop
  | [], us => us = []
  | v :: vs, us => ∃ u us', us = u :: us' ∧ VRep X v u ∧ RowRep X vs us'
def CellsAt (X : Ctx) : List V → Nat → Nat → Prop
  | [], _, _ => True
  | v :: vs, b, o => (∃ u, X.w.cell? ⟨b, o, none⟩ = some u ∧ VRep X v u ∧ Stb (X.O b) o ∧ oneV u = true) ∧ CellsAt X vs b (o + 1)
def RowsAt (X : Ctx) (e : Nat) : List (List V) → Nat → Nat → Prop
  | [], _, _ => True
  | r :: rs, b, o => r.length = e ∧ CellsAt X r b o ∧ RowsAt X e rs b (o + e)
end
/-- What has come to pass between two states. -/
structure Ext (X X' : Ctx) : Prop where
  stb : ∀ b o, Stb (X.O b) o → Stb (X'.O b) o ∧ X'.w.cell? ⟨b, o, none⟩ = X.w.cell? ⟨b, o, none⟩
  box : ∀ k, (X.bx k).is → (X'.bx k).is ∧ X'.bl k = X.bl k
  tail : ∀ k m, X.bx k = .tail m → ∃ m', X'.bx k = .tail m' ∧ m ≤ m' ∧ (m' = m → ∀ b st arr ty, X.O b = .grow k st → X.w.heap[b]? = some (.cells arr ty (0, 0)) → X'.O b = .grow k st ∧ ∃ arr', X'.w.heap[b]? = some (.cells arr' ty (0, 0)) ∧ arr'.size = arr.size)
  frz : ∀ b, X.O b = .frz → X'.O b = .frz ∧ X'.w.heap[b]? = X.w.heap[b]?
  gc : ∀ k v e rows, X.bx k = .gcells v e rows → ∃ v' rows', X'.bx k = .gcells v' e rows' ∧ v ≤ v' ∧ (v' = v → X'.bl k = X.bl k ∧ (X.O (X.bl k) = .box k → X'.O (X.bl k) = .box k ∧ ∀ us ty, X.w.heap[X.bl k]? = some (.cells us ty (0, 0)) → ∃ us', X'.w.heap[X.bl k]? = some (.cells us' ty (0, 0)) ∧ us'.size = us.size))
  os : X'.w.os = X.w.os
  tape : X'.w.tape = X.w.tape
  output : X'.w.output = X.w.output
  size : X.w.heap.size ≤ X'.w.heap.size
theorem Ext.refl (X : Ctx) : Ext X X :=
  ⟨fun _ _ h => ⟨h, rfl⟩, fun _ h => ⟨h, rfl⟩, fun k m h => ⟨m, h, Nat.le_refl _, fun _ b st arr ty h1 h2 => ⟨h1, arr, h2, rfl⟩⟩, fun _ h => ⟨h, rfl⟩, fun k v e rows h => ⟨v, rows, h, Nat.le_refl _, fun _ => ⟨rfl, fun h => ⟨h, fun us ty h => ⟨us, h, rfl⟩⟩⟩⟩, rfl, rfl, rfl, Nat.le_refl _⟩
theorem Ext.trans {X Y Z : Ctx} (h : Ext X Y) (g : Ext Y Z) : Ext X Z where
  stb b o hs := ⟨(g.stb b o (h.stb b o hs).1).1, (g.stb b o (h.stb b o hs).1).2.trans (h.stb b o hs).2⟩
  box k hk := ⟨(g.box k (h.box k hk).1).1, (g.box k (h.box k hk).1).2.trans (h.box k hk).2⟩
  tail k m hk := by
    obtain ⟨m1, h1, h2, h3⟩ := h.tail k m hk
    obtain ⟨m2, g1, g2, g3⟩ := g.tail k m1 h1
    refine ⟨m2, g1, by omega, fun hm b st arr ty hO hh => ?_⟩
    obtain ⟨h4, arr1, h5, h6⟩ := h3 (by omega) b st arr ty hO hh
    obtain ⟨g4, arr2, g5, g6⟩ := g3 (by omega) b st arr1 ty h4 h5
    exact ⟨g4, arr2, g5, g6.trans h6⟩
  frz b hb := ⟨(g.frz b (h.frz b hb).1).1, (g.frz b (h.frz b hb).1).2.trans (h.frz b hb).2⟩
  gc k v e rows hk := by
    obtain ⟨v1, r1, h1, h2, h3⟩ := h.gc k v e rows hk
    obtain ⟨v2, r2, g1, g2, g3⟩ := g.gc k v1 e r1 h1
    refine ⟨v2, r2, g1, Nat.le_trans h2 g2, fun hv => ?_⟩
    obtain ⟨a1, a2⟩ := h3 (by omega)
    obtain ⟨b1, b2⟩ := g3 (by omega)
    rw [a1] at b1 b2
    refine ⟨b1, fun hO => ?_⟩
    obtain ⟨c1, c2⟩ := a2 hO
    obtain ⟨d1, d2⟩ := b2 c1
    refine ⟨d1, fun us ty hu => ?_⟩
    obtain ⟨us1, e1, e2⟩ := c2 us ty hu
    obtain ⟨us2, f1, f2⟩ := d2 us1 ty e1
    exact ⟨us2, f1, f2.trans e2⟩
  os := g.os.trans h.os
  tape := g.tape.trans h.tape
  output := g.output.trans h.output
  size := Nat.le_trans h.size g.size

mutual
theorem VRep.mono {X X' : Ctx} (h : Ext X X') : ∀ (v : V) (u : Value), VRep X v u → VRep X' v u
  | .junk, _, _ => by simp [VRep]
  | .sc v, u, hv => by simpa [VRep] using hv
  | .ref k o, u, hv => by
    simp only [VRep] at hv ⊢
    rw [(h.box k hv.1).2]
    exact ⟨(h.box k hv.1).1, hv.2⟩
  | .ro row, u, hv => by
    simp only [VRep] at hv ⊢
    obtain ⟨b, o, h1, h2⟩ := hv
    exact ⟨b, o, h1, CellsAt.mono h row b o h2⟩
  | .sl e xs, u, hv => by
    simp only [VRep] at hv ⊢
    obtain ⟨a, c, h1, h2, h3⟩ := hv
    exact ⟨a, c, h1, h2, h3.imp id fun ⟨b, o, h4, h5⟩ => ⟨b, o, h4, RowsAt.mono h e xs b o h5⟩⟩
  | .fl e xs, u, hv => by
    simp only [VRep] at hv ⊢
    obtain ⟨a, h1, h3⟩ := hv
    exact ⟨a, h1, h3.imp id fun ⟨b, o, h4, h5⟩ => ⟨b, o, h4, RowsAt.mono h e xs b o h5⟩⟩
  | .own e xs k, u, hv => by
    simp only [VRep] at hv ⊢
    obtain ⟨a, c, h1, h2, h3, n, h6, h7, h8⟩ := hv
    obtain ⟨n', g1, g2, g3⟩ := h.tail k n h6
    refine ⟨a, c, h1, h2, h3.imp id fun ⟨b, o, h4, h5⟩ => ⟨b, o, h4, RowsAt.mono h e xs b o h5⟩, n', g1, by omega, fun hn => ?_⟩
    refine (h8 (by omega)).imp id fun ⟨b, o, st, arr, ty, k1, k2, k3, k4, k5⟩ => ?_
    obtain ⟨j1, arr', j2, j3⟩ := g3 (by omega) b st arr ty k2 k4
    exact ⟨b, o, st, arr', ty, k1, j1, k3, j2, by omega⟩
  | .msl k o len cap e, u, hv => by
    simp only [VRep] at hv ⊢
    rw [(h.box k hv.1).2]
    exact ⟨(h.box k hv.1).1, hv.2⟩
  | .fn f cap, u, hv => by
    simp only [VRep] at hv ⊢
    obtain ⟨us, h1, h2⟩ := hv
    exact ⟨us, h1, RowRep.mono h cap us h2⟩
  | .gsl k ver q len e, u, hv => by
    simp only [VRep] at hv ⊢
    obtain ⟨a, c, v', e0, rows, h1, h0, h2, h3, h4⟩ := hv
    obtain ⟨v2, r2, g1, g2, g3⟩ := h.gc k v' e0 rows h2
    refine ⟨a, c, v2, e0, r2, h1, h0, g1, by omega, fun hv => ?_⟩
    obtain ⟨b1, b2⟩ := g3 (by omega)
    refine (h4 (by omega)).imp id fun ⟨k1, k2, us, ty, k3, k4⟩ => ?_
    obtain ⟨c1, c2⟩ := b2 k2
    obtain ⟨us1, e1, e2⟩ := c2 us ty k3
    rw [b1]
    exact ⟨k1, c1, us1, ty, e1, by omega⟩
  | .gref k ver o, u, hv => by
    simp only [VRep] at hv ⊢
    obtain ⟨ad, v', e, rows, h1, h2, h3, h4⟩ := hv
    obtain ⟨v2, r2, g1, g2, g3⟩ := h.gc k v' e rows h2
    refine ⟨ad, v2, e, r2, h1, g1, by omega, fun hv => ?_⟩
    rw [(g3 (by omega)).1]
    exact h4 (by omega)
  | .agg cs, u, hv => by
    simp only [VRep] at hv ⊢
    obtain ⟨us, h1, h2, h3⟩ := hv
    exact ⟨us, h1, RowRep.mono h cs us h2, h3⟩
  | .tup cs, u, hv => by
    simp only [VRep] at hv ⊢
    obtain ⟨us, h1, h2⟩ := hv
    exact ⟨us, h1, RowRep.mono h cs us h2⟩
theorem RowRep.mono {X X' : Ctx} (h : Ext X X') : ∀ (vs : List V) (us : List Value), RowRep X vs us → RowRep X' vs us
  | [], us, hv => by simpa [RowRep] using hv
  | v :: vs, us, hv => by
    simp only [RowRep] at hv ⊢
    obtain ⟨u, us', h1, h2, h3⟩ := hv
    exact ⟨u, us', h1, VRep.mono h v u h2, RowRep.mono h vs us' h3⟩
theorem CellsAt.mono {X X' : Ctx} (h : Ext X X') : ∀ (vs : List V) (b o : Nat), CellsAt X vs b o → CellsAt X' vs b o
  | [], b, o, hv => by simp [CellsAt]
  | v :: vs, b, o, hv => by
    simp only [CellsAt] at hv ⊢
    obtain ⟨⟨u, h1, h2, h3, h5⟩, h4⟩ := hv
    exact ⟨⟨u, (h.stb b o h3).2.trans h1, VRep.mono h v u h2, (h.stb b o h3).1, h5⟩, CellsAt.mono h vs b (o + 1) h4⟩
theorem RowsAt.mono {X X' : Ctx} (h : Ext X X') (e : Nat) : ∀ (vs : List (List V)) (b o : Nat), RowsAt X e vs b o → RowsAt X' e vs b o
  | [], b, o, hv => by simp [RowsAt]
  | r :: rs, b, o, hv => by
    simp only [RowsAt] at hv ⊢
    exact ⟨hv.1, CellsAt.mono h r b o hv.2.1, RowsAt.mono h e rs b (o + e) hv.2.2⟩
end
end Go.Vm

