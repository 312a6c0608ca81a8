/- A logic of values over the model. Part N: texts, Byts, zeros appended. -/
import Derived.Test.YtjmfdddeoadpaaaKbVmM
import Derived.WideShapes
set_option linter.unusedVariables false
set_option linter.unusedSimpArgs false
namespace Go.Vm
/-! ### Bytes -/
def bV (x : Int) : V := .sc (.int .u8 x)
def bytesV (xs : List Int) : List (List V) := xs.map fun x => [bV x]
def Byts (b : List Int) : Prop := ∀ x ∈ b, 0 ≤ x ∧ x < 256
/-- A text's Byts; the text of bytes. -/
def sB (s : ByteArray) : List Int := s.data.toList.map fun b => (b.toNat : Int)
def bS (xs : List Int) : ByteArray := ⟨(xs.map fun x => UInt8.ofNat x.toNat).toArray⟩
theorem sB_bS {xs : List Int} (h : Byts xs) : sB (bS xs) = xs := by
  unfold sB bS
  rw [List.map_map]
  have : ∀ (ys : List Int), (∀ x ∈ ys, 0 ≤ x ∧ x < 256) → ys.map ((fun b : UInt8 => (b.toNat : Int)) ∘ fun x => UInt8.ofNat x.toNat) = ys := by
    intro ys
    induction ys with
    | nil => intro _; rfl
    | cons y ys ih =>
      intro hy
      have h1 := hy y (List.mem_cons_self ..)
      rw [List.map_cons, ih (fun x hx => hy x (List.mem_cons_of_mem _ hx))]
      congr 1
      simp only [Function.comp, UInt8.toNat_ofNat']
      omega
  exact this xs h
theorem bS_inj {a b : List Int} (ha : Byts a) (hb : Byts b) : bS a = bS b ↔ a = b := ⟨fun h => by rw [← sB_bS ha, h, sB_bS hb], fun h => by rw [h]⟩
theorem bytesV_len (a : List Int) : (bytesV a).length = a.length := by simp [bytesV]
theorem bytesV_flat (xs : List Int) : (bytesV xs).flatten = xs.map bV := by
  unfold bytesV
  induction xs with
  | nil => rfl
  | cons x xs ih => rw [List.map_cons, List.flatten_cons, ih]; rfl
section
variable {P : Program} {o : Oper} {t : Nat → V} {pre up : List (Nat × Box)} {val : V} {l : List (Nat × V)}
/-! ### A text of Byts; Byts of a text -/
theorem run_b2s {w : World} {a : Option Addr} {len c : Nat} {xs : List Int} (hl : xs.length = len) (h : len = 0 ∨ ∃ ad, a = some ad ∧ (loadCells ad len).run P w = .ok (xs.map fun x => Value.int .u8 x).toArray w) : (Conv.bytesToString (.slice a len c)).run P w = .ok (.string (bS xs)) w := by
  have loop : ∀ (ys : List Int) (s : ByteArray), (forIn (m := Sem) (ys.map fun x => Value.int .u8 x) s fun c s => match c with
      | .int .u8 n => pure (.yield (s.push (UInt8.ofNat n.toNat)))
      | _ => do
        stuck "bytesToString: byte expected"
        pure (.yield s)).run P w = .ok ⟨s.data ++ (bS ys).data⟩ w := by
    intro ys
    induction ys with
    | nil => intro s; simp [bS]
    | cons y ys ih =>
      intro s
      simp only [List.map_cons, List.forIn_cons, Sem.run_bind, Sem.run_pure, Result.andThen_ok]
      rw [ih]
      congr 2
      simp [bS, ByteArray.push, ← Array.append_singleton]
  cases a with
  | none =>
    rcases h with h | ⟨ad, h, _⟩
    · subst h
      have : xs = [] := List.length_eq_zero_iff.1 hl
      subst this
      rfl
    · cases h
  | some ad =>
    have hld : (loadCells ad len).run P w = .ok (xs.map fun x => Value.int .u8 x).toArray w := by
      rcases h with h | ⟨ad', h, h2⟩
      · subst h
        have : xs = [] := List.length_eq_zero_iff.1 hl
        subst this
        simp [loadCells, loadCellsFrom]
      · cases h; exact h2
    have := loop xs ByteArray.empty
    simp only [Conv.bytesToString, Sem.run_bind, hld, Result.andThen_ok, Array.forIn_toList, List.forIn_toArray]
    erw [this]
    show Result.ok (Value.string ⟨#[] ++ (bS xs).data⟩) w = _
    rw [Array.empty_append]
theorem step_b2s {ty ty2 el : TypeId} {x : Operand} {v : V} {xs : List Int} (ho : o.op = .convert ty ty2 x) (hx : ev t x = v) (hg : Gives v 1 (bytesV xs) pre) (hb : Byts xs) (hu : P.underlying ty = some (.slice el)) (hu2 : P.underlying ty2 = some .string) (he : P.underlying el = some (.int .u8)) (hsl : ∀ X u, VRep X v u → ∃ a c, u = .slice a xs.length c) : StepOK P o t pre [] (.sc (.string (bS xs))) := by
  refine step_value fun n X ρ hR hop hpre => ?_
  have h1 := hop x (by simp [ho, Op.operands])
  rw [hx] at h1
  obtain ⟨l1, l2, us, l3, l4, l5, l6⟩ := hg P n X _ hR h1 hpre
  obtain ⟨a, c, hs⟩ := hsl X _ h1
  refine ⟨.string (bS xs), exec_run (exec_convert ho) ?_, by simp [VRep]⟩
  have hus : us = xs.map fun x => Value.int .u8 x := by
    rw [bytesV_flat] at l3
    have : ∀ (ys : List Int) (vs : List Value), RowRep X (ys.map bV) vs → vs = ys.map fun x => Value.int .u8 x := by
      intro ys
      induction ys with
      | nil => intro vs h; simpa [RowRep] using h
      | cons y ys ih =>
        intro vs h
        simp only [List.map_cons, RowRep] at h
        obtain ⟨u, us', rfl, g1, g2⟩ := h
        simp only [bV, VRep] at g1
        rw [g1, ih us' g2]; rfl
    exact this xs us l3
  have hrun : (Conv.bytesToString (ρ x)).run P X.w = .ok (.string (bS xs)) X.w := by
    rw [hs]
    refine run_b2s rfl ?_
    by_cases h0 : xs.length = 0
    · exact .inl h0
    · refine .inr ?_
      have h6 := l6 X.w.drawn (bytesV xs).length (Nat.le_refl _)
      rw [hs] at h6
      cases a with
      | none =>
        exfalso
        simp only [Builtin.firstCells] at h6
        have h7 := congrArg (fun r => match r with | Result.ok (v : Array Value) _ => v.size | _ => 0) h6
        rw [bytesV_len] at h7
        have h8 : us.length = xs.length := by rw [hus]; simp
        simp [Sem.run_pure] at h7
        omega
      | some ad =>
        refine ⟨ad, rfl, ?_⟩
        rw [bytesV_len] at h6
        have h8 : us.length = xs.length := by rw [hus]; simp
        rw [Nat.mul_one, List.take_of_length_le (by omega), hus] at h6
        have e1 : Builtin.firstCells 1 xs.length (.slice (some ad) xs.length c) = loadCells ad (xs.length * 1) := rfl
        rw [e1, Nat.mul_one] at h6
        exact h6
  have hc : convert ty ty2 (ρ x) = (do match ← underlying ty, ← underlying ty2, ρ x with | _, _, _ => Conv.bytesToString (ρ x)) ∨ True := .inr trivial
  rw [hs] at hrun ⊢
  unfold convert
  simp only [Sem.run_bind, run_under hu, run_under hu2, Result.andThen_ok, run_under he]
  exact hrun
theorem sl_shape {v : V} {e : Nat} {xs : List (List V)} (h : IsSl v e xs) {m : Nat} (hm : xs.length = m) : ∀ X u, VRep X v u → ∃ a c, u = .slice a m c := by
  intro X u hv
  obtain ⟨a, c, h1, _⟩ := h.rep hv
  exact ⟨a, c, by rw [h1, hm]⟩
end
/-! ### Zeros appended -/
section
variable {P : Program} {o : Oper} {t : Nat → V} {pre up : List (Nat × Box)} {val : V} {l : List (Nat × V)}
/-! ### Texts put together, compared -/
theorem toList_iff {a b : ByteArray} : (a.toList == b.toList) = true ↔ a = b := by
  rw [beq_iff_eq, Go.ByteArray.toList_eq, Go.ByteArray.toList_eq]
  exact ⟨fun h => Go.WideShapes.bytes_inj h, fun h => by rw [h]⟩
theorem run_eqls {ty : TypeId} {x y : Operand} {a b : ByteArray} (w : World) : (do eqGuard .eql ty x y (.string a) (.string b); binOp .eql ty (.string a) (.string b) : Sem Value).run P w = .ok (.bool (a.toList == b.toList)) w := rfl
section
variable {B : Bas} {N n : Nat} {Q : Exit → S → Prop} {ops : Array Oper} {L : List Oper} {bx : Nat → Box} {acc : List Ac} {ty ty2 : TypeId} {x y : Operand} {d : Nat} {a b : ByteArray}
theorem rl_eqls (hg : GuardOK N ops l o) (hd : o.dst = some d) (hN : Nat.blt d N = true) (ho : o.op = .binOp .eql ty x y ty2) (hx : lko l x = some (.sc (.string a))) (hy : lko l y = some (.sc (.string b)))
    (h1 : a = b → RunsL P B N ops L ⟨mk ((d, .sc (.bool true)) :: l), n, bx⟩ Q) (h2 : ¬ a = b → RunsL P B N ops L ⟨mk ((d, .sc (.bool false)) :: l), n, bx⟩ Q) : RunsL P B N ops (o :: L) ⟨mk l, n, bx⟩ Q :=
  rl_cmp hg hd hN ho hx hy run_eqls (fun h => h1 (toList_iff.1 h)) (fun h => h2 (fun e => by rw [toList_iff.2 e] at h; cases h))
end
end
end Go.Vm
