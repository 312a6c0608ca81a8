/- A logic of values over the model. Part K: cuts of arrays, shifts and bits. -/
import Derived.Test.YtdmkhpnjjpeeaaaKnVmJ
import Derived.Laws.BitsLemmas
import Derived.Laws.Entries
import Derived.WideShapes
import Derived.Laws.BitsAllLaws
import Derived.Defers
import Derived.RangeFuncIn
import Derived.RangeFuncNested
import Derived.Lib.SlBytesConst
import Derived.Test.YtdmkhpnjjpeeaaaProg
import Derived.Test.YtdmkhpnjjpeeaaaKnVmI
import Derived.ProofKit
set_option linter.unusedVariables false
set_option linter.unusedSimpArgs false
namespace Go.Vm
section
variable {P : Program} {o : Oper} {t : Nat → V} {l : List (Nat × V)}
/-- A cut of an array that is a box's; its numbers are told plainly. -/
theorem step_sl_arr {ty el : TypeId} {x : Operand} {lo hi mx : Option Operand} {e k q len a h m q' n' c' : Nat} (ho : o.op = .slice ty x lo hi mx) (hx : ev t x = .ref k q) (hu : P.underlying ty = some (.array len el)) (he : (P.info? el).map (·.size) = some e)
    (hlo : bndLo (lo.map (ev t)) = some a) (hhi : bndHi len (hi.map (ev t)) = some h) (hmx : bndHi len (mx.map (ev t)) = some m) (hmh : mx.isSome = true → hi.isSome = true) (hlh : a ≤ h) (hh : h ≤ m) (hm : m ≤ len)
    (hq : m ≠ a ∧ q + a * e = q' ∨ m = a ∧ q = q') (hn : h - a = n') (hc : m - a = c') : StepOK P o t [] [] (.msl k q' n' c' e) := by
  have := step_slice_arr ho hx hu he hlo hhi hmx hmh hlh hh hm
  rcases hq with ⟨h1, h2⟩ | ⟨h1, h2⟩
  · rw [if_neg h1, h2, hn, hc] at this; exact this
  · rw [if_pos h1, h2, hn, hc] at this; exact this
theorem step_sl_msl {ty el : TypeId} {x : Operand} {lo hi mx : Option Operand} {e k q len cap a h m q' n' c' : Nat} (ho : o.op = .slice ty x lo hi mx) (hx : ev t x = .msl k q len cap e) (hu : P.underlying ty = some (.slice el)) (he : (P.info? el).map (·.size) = some e)
    (hlo : bndLo (lo.map (ev t)) = some a) (hhi : bndHi len (hi.map (ev t)) = some h) (hmx : bndHi cap (mx.map (ev t)) = some m) (hmh : mx.isSome = true → hi.isSome = true) (hlh : a ≤ h) (hh : h ≤ m) (hm : m ≤ cap)
    (hq : m ≠ a ∧ q + a * e = q' ∨ m = a ∧ q = q') (hn : h - a = n') (hc : m - a = c') : StepOK P o t [] [] (.msl k q' n' c' e) := by
  have := step_slice_msl ho hx hu he hlo hhi hmx hmh hlh hh hm
  rcases hq with ⟨h1, h2⟩ | ⟨h1, h2⟩
  · rw [if_neg h1, h2, hn, hc] at this; exact this
  · rw [if_pos h1, h2, hn, hc] at this; exact this
theorem CellsAt.taken {X : Ctx} : ∀ {vs : List V} {b q : Nat} (i : Nat), CellsAt X vs b q → CellsAt X (vs.take i) b q
  | [], b, q, i, h => by simpa using h
  | v :: vs, b, q, 0, h => by simp [CellsAt]
  | v :: vs, b, q, i + 1, h => by
    simp only [CellsAt, List.take_succ_cons] at h ⊢
    exact ⟨h.1, CellsAt.taken i h.2⟩
/-- A cell of an array that nobody writes any more. -/
theorem step_index_ro {ty el : TypeId} {x y : Operand} {len : Nat} {kd : IntKind} {i : Int} {row : List V} {v : V} (ho : o.op = .indexAddr ty x y) (hx : ev t x = .ro row) (hy : ev t y = .sc (.int kd i))
    (hu : P.underlying ty = some (.array len el)) (he : (P.info? el).map (·.size) = some 1) (h0 : 0 ≤ i) (h1 : i < len) (hv : row[i.toNat]? = some v) : StepOK P o t [] [] (.ro [v]) := by
  refine step_value fun n X ρ hR hop hpre => ?_
  have g1 := hop x (by simp [ho, Op.operands])
  have g2 := hop y (by simp [ho, Op.operands])
  rw [hx] at g1; rw [hy] at g2
  simp only [VRep] at g1 g2
  obtain ⟨b, q, h3, h4⟩ := g1
  refine ⟨.pointer (some ⟨b, q + i.toNat * 1, none⟩), exec_run (exec_indexAddr ho) ?_, ?_⟩
  · rw [h3, g2]
    simp only [Instr.indexAt, asIntOf, Sem.run_bind, Sem.run_pure, Result.andThen_ok, run_under hu, Instr.sureAddr, h0, h1, and_self, if_true, run_size he, addr_add]
  · simp only [VRep]
    have h5 := (h4.dropped i.toNat).taken 1
    have h6 : (row.drop i.toNat).take 1 = [v] := by
      have hl := (List.getElem?_eq_some_iff.1 hv).1
      rw [List.drop_eq_getElem_cons hl, List.take_succ_cons, List.take_zero]
      rw [List.getElem?_eq_getElem hl] at hv
      cases hv; rfl
    rw [h6] at h5
    exact ⟨b, q + i.toNat * 1, rfl, by rw [Nat.mul_one]; exact h5⟩
theorem bndLo_nat {x : Operand} {k : IntKind} {i : Int} {a : Nat} (h : lko l x = some (.sc (.int k i))) (h0 : i = (a : Int)) : bndLo ((some x).map (ev (mk l))) = some a := by
  rw [bndLo_some h (by omega)]; congr 1; omega
theorem bndHi_nat {x : Operand} {k : IntKind} {i : Int} {m a : Nat} (h : lko l x = some (.sc (.int k i))) (h0 : i = (a : Int)) : bndHi m ((some x).map (ev (mk l))) = some a := by
  rw [bndHi_some h (by omega)]; congr 1; omega
theorem step_shl {ty ty2 : TypeId} {x y : Operand} {k yk : IntKind} {a b r : Int} (ho : o.op = .binOp .shl ty x y ty2) (hx : ev t x = .sc (.int k a)) (hy : ev t y = .sc (.int yk b)) (h0 : 0 ≤ b) (h : k.wrap (a * 2 ^ (min b.toNat k.bits)) = r) : StepOK P o t [] [] (.sc (.int k r)) :=
  step_binOp ho hx hy fun w => by
    subst h
    simp only [eqGuard, binOp, Op.shift, Int.not_lt.2 h0, if_false]
    rfl
theorem step_shr {ty ty2 : TypeId} {x y : Operand} {k yk : IntKind} {a b r : Int} (ho : o.op = .binOp .shr ty x y ty2) (hx : ev t x = .sc (.int k a)) (hy : ev t y = .sc (.int yk b)) (h0 : 0 ≤ b) (h : a.fdiv (2 ^ (min b.toNat k.bits)) = r) : StepOK P o t [] [] (.sc (.int k r)) :=
  step_binOp ho hx hy fun w => by
    subst h
    simp only [eqGuard, binOp, Op.shift, Int.not_lt.2 h0, if_false]
    rfl
theorem step_bits {op : BinOp} {ty ty2 : TypeId} {x y : Operand} {k : IntKind} {a b r : Int} (ho : o.op = .binOp op ty x y ty2) (hx : ev t x = .sc (.int k a)) (hy : ev t y = .sc (.int k b)) (hop : op = .and ∨ op = .or ∨ op = .xor ∨ op = .andNot) (h : bits op k a b = r) : StepOK P o t [] [] (.sc (.int k r)) :=
  step_binOp ho hx hy fun w => by
    subst h
    rcases hop with rfl | rfl | rfl | rfl
    · simp only [eqGuard, binOp_and, intBits_and]; rfl
    · simp only [eqGuard, binOp_or, intBits_or]; rfl
    · simp only [eqGuard, binOp_xor, intBits_xor]; rfl
    · simp only [eqGuard, binOp_andNot, intBits_andNot]; rfl
theorem step_quo {ty ty2 : TypeId} {x y : Operand} {k : IntKind} {a b : Int} (ho : o.op = .binOp .quo ty x y ty2) (hx : ev t x = .sc (.int k a)) (hy : ev t y = .sc (.int k b)) (ha : 0 ≤ a) (hb : 0 < b) (h : k.wrap (a / b) = a / b) : StepOK P o t [] [] (.sc (.int k (a / b))) :=
  step_binOp ho hx hy fun w => by
    have e : a.tdiv b = a / b := Int.tdiv_eq_ediv_of_nonneg ha
    simp only [eqGuard, binOp_quo, Op.intDiv, show ¬ b = 0 by omega, if_false, e, h]; rfl
theorem or_join8 {a b : Int} (ha : 0 ≤ a) (ha2 : a * 256 < 18446744073709551616) (hb : 0 ≤ b) (hb2 : b < 256) : bits .or .u64 (a * 256) b = a * 256 + b :=
  bits_join .u64 64 (by decide) (fun n h1 h2 => wu64 ⟨h1, by omega⟩) 8 (a * 256) b (by omega) (by omega) (by omega) hb (by omega) (by omega)
end
end Go.Vm

/- A logic of values over the model. Part M: slices that grow and are written: a box of their own whose block may change. -/
set_option linter.unusedVariables false
set_option linter.unusedSimpArgs false
namespace Go.Vm
section
variable {P : Program} {o : Oper} {t : Nat → V} {pre up : List (Nat × Box)} {val : V}
/-! ### What is read off such a slice -/
/-! ### append, cuts -/
end
section
variable {P : Program} {B : Bas} {N : Nat} {Q : Exit → S → Prop} {l : List (Nat × V)} {n : Nat} {bx : Nat → Box}
end
end Go.Vm
namespace Go.Vm
section
variable {P : Program} {B : Bas} {N : Nat} {Q : Exit → S → Prop} {ops : Array Oper} {L : List Oper} {o : Oper} {l : List (Nat × V)} {n : Nat} {bx : Nat → Box} {acc : List Ac}
theorem rl3 {pre : List (Nat × Box)} {d k k' k2 : Nat} {b b' b2 : Box} {v : V} (hg : GuardOK N ops l o) (hd : o.dst = some d) (hN : Nat.blt d N = true) (hs : StepOK P o (mk l) pre [(k, b), (k', b'), (k2, b2)] v) (hp : PreOK bx pre) (hk : k < n) (hk' : k' < n) (hk2 : k2 < n) (h : RunsL P B N ops L ⟨mk ((d, v) :: l), n, upd (upd (upd bx k b) k' b') k2 b2⟩ Q) : RunsL P B N ops (o :: L) ⟨mk l, n, bx⟩ Q :=
  rl_any hg (by rw [hd]; exact hN) hs hp (by intro p hp; simp only [List.mem_cons, List.not_mem_nil, or_false] at hp; rcases hp with rfl | rfl | rfl <;> assumption) (by rw [hd]; exact h)
theorem rl4 {pre : List (Nat × Box)} {d k k' k2 k3 : Nat} {b b' b2 b3 : Box} {v : V} (hg : GuardOK N ops l o) (hd : o.dst = some d) (hN : Nat.blt d N = true) (hs : StepOK P o (mk l) pre [(k, b), (k', b'), (k2, b2), (k3, b3)] v) (hp : PreOK bx pre) (hk : k < n) (hk' : k' < n) (hk2 : k2 < n) (hk3 : k3 < n) (h : RunsL P B N ops L ⟨mk ((d, v) :: l), n, upd (upd (upd (upd bx k b) k' b') k2 b2) k3 b3⟩ Q) : RunsL P B N ops (o :: L) ⟨mk l, n, bx⟩ Q :=
  rl_any hg (by rw [hd]; exact hN) hs hp (by intro p hp; simp only [List.mem_cons, List.not_mem_nil, or_false] at hp; rcases hp with rfl | rfl | rfl | rfl <;> assumption) (by rw [hd]; exact h)
theorem rl_know {d : Nat} {b c : Bool} (hb : lk l d = some (.sc (.bool b))) (hc : b = c) (h : RunsL P B N ops L ⟨mk ((d, .sc (.bool c)) :: l), n, bx⟩ Q) : RunsL P B N ops L ⟨mk l, n, bx⟩ Q := by
  refine rl_bool hb (fun h1 => ?_) (fun h1 => ?_)
  · rw [← h1, hc]; exact h
  · rw [← h1, hc]; exact h
end
section
variable {P : Program} {o : Oper} {ty ty2 : TypeId} {x y : Operand} {k yk : IntKind} {a b r : Int} {t : Nat → V} {l : List (Nat × V)}
theorem step_subw (ho : o.op = .binOp .sub ty x y ty2) (hx : ev t x = .sc (.int k a)) (hy : ev t y = .sc (.int k b)) (h : k.wrap (a - b) = r) : StepOK P o t [] [] (.sc (.int k r)) :=
  step_binOp ho hx hy (fun w => by rw [← h]; cases k <;> rfl)
theorem step_convw {k' : IntKind} (ho : o.op = .convert ty ty2 x) (hx : lko l x = some (.sc (.int k a))) (h1 : P.underlying ty = some (.int k)) (h2 : P.underlying ty2 = some (.int k')) (h : k'.wrap a = r) : StepOK P o (mk l) [] [] (.sc (.int k' r)) := h ▸ step_conv ho hx h1 h2
theorem run_equal_bool (hu : P.underlying ty = some .bool) (p q : Bool) (w : World) : (Op.equal ty (.bool p) (.bool q)).run P w = .ok (p == q) w := by
  have heq : ∀ d, (Op.equalIn (d + 1) ty (.bool p) (.bool q)).run P w = .ok (p == q) w := by
    intro d
    simp only [Op.equalIn, Sem.run_bind, run_under hu, Result.andThen_ok]
    rfl
  exact heq 9999
theorem step_neqb {p q : Bool} (ho : o.op = .binOp .neq ty x y ty2) (hx : ev t x = .sc (.bool p)) (hy : ev t y = .sc (.bool q)) (hu : P.underlying ty = some .bool) : StepOK P o t [] [] (.sc (.bool (!(p == q)))) :=
  step_binOp ho hx hy (fun w => by
    have e1 : (eqGuard .neq ty x y (.bool p) (.bool q)) = pure () := rfl
    have e2 : (binOp .neq ty (.bool p) (.bool q)) = (do pure (.bool (!(← Op.equal ty (.bool p) (.bool q))))) := rfl
    rw [Sem.run_bind, e1, e2]
    simp only [Sem.run_bind, Sem.run_pure, Result.andThen_ok, run_equal_bool hu])
end
end Go.Vm
namespace Go.Vm
section
variable {P : Program} {o : Oper} {t : Nat → V}
end
end Go.Vm
namespace Go.Vm
section
variable {P : Program} {o : Oper} {t : Nat → V}
end
end Go.Vm

/- A logic of values over the model. Part N: texts, Byts, zeros appended. -/
set_option linter.unusedVariables false
set_option linter.unusedSimpArgs false
namespace Go.Vm
/-! ### Bytes -/
def bV (x : Int) : V := .sc (.int .u8 x)
def bytesV (xs : List Int) : List (List V) := xs.map fun x => [bV x]
def Byts (b : List Int) : Prop := ∀ x ∈ b, 0 ≤ x ∧ x < 256
/-- A text's Byts; the text of bytes. -/
def sB (s : ByteArray) : List Int := s.data.toList.map fun b => (b.toNat : Int)
def bS (xs : List Int) : ByteArray := ⟨(xs.map fun x => UInt8.ofNat x.toNat).toArray⟩
theorem sB_len (s : ByteArray) : (sB s).length = s.size := by unfold sB; rw [List.length_map, Array.length_toList]; rfl
theorem sB_bytes (s : ByteArray) : Byts (sB s) := by
  intro x hx
  obtain ⟨b, _, rfl⟩ := List.mem_map.1 hx
  have := b.toNat_lt
  omega
theorem bS_sB (s : ByteArray) : bS (sB s) = s := by
  apply Go.WideShapes.bytes_inj
  simp [bS, sB, Function.comp_def]
theorem bytesV_app (a b : List Int) : bytesV a ++ bytesV b = bytesV (a ++ b) := by simp [bytesV]
theorem bytesV_len (a : List Int) : (bytesV a).length = a.length := by simp [bytesV]
theorem bytesV_flat (xs : List Int) : (bytesV xs).flatten = xs.map bV := by
  unfold bytesV
  induction xs with
  | nil => rfl
  | cons x xs ih => rw [List.map_cons, List.flatten_cons, ih]; rfl
theorem bytesV_row (xs : List Int) : ∀ r ∈ bytesV xs, r.length = 1 := by
  intro r hr; obtain ⟨x, _, rfl⟩ := List.mem_map.1 hr; rfl
section
variable {P : Program} {o : Oper} {t : Nat → V} {pre up : List (Nat × Box)} {val : V} {l : List (Nat × V)}
theorem rowRep_bytes {X : Ctx} (xs : List Int) : RowRep X (xs.map bV) (xs.map fun x => Value.int .u8 x) := by
  induction xs with
  | nil => simp [RowRep]
  | cons x xs ih => simp only [List.map_cons, RowRep]; exact ⟨_, _, rfl, by simp [bV, VRep], ih⟩
theorem one_bytes (xs : List Int) : ∀ u ∈ xs.map (fun x => Value.int .u8 x), oneV u = true := by
  intro u hu; obtain ⟨x, _, rfl⟩ := List.mem_map.1 hu; rfl
theorem gives_str (s : ByteArray) : Gives (.sc (.string s)) 1 (bytesV (sB s)) [] := by
  intro P n X u hR hv _
  simp only [VRep] at hv
  subst hv
  have hl : (bytesV (sB s)).length = s.size := by rw [bytesV_len, sB_len]
  refine ⟨fun w => by rw [hl]; rfl, bytesV_row _, (sB s).map fun x => Value.int .u8 x, by rw [bytesV_flat]; exact rowRep_bytes _, by rw [List.length_map, sB_len, hl]; omega, one_bytes _, fun d j hj => ?_⟩
  rw [hl] at hj
  have e : ((s.extract 0 j).data.map fun b => Value.int .u8 b.toNat) = (((sB s).map fun x => Value.int .u8 x).take (j * 1)).toArray := by
    apply Array.toList_inj.1
    rw [Nat.mul_one, ← List.map_take]
    simp only [sB, ByteArray.data_extract, Array.toList_map, Array.toList_extract, ← List.map_take, List.map_map]
    simp [List.extract, Function.comp_def]
  show (Builtin.firstCells 1 j (.string s)).run P _ = _
  simp only [Builtin.firstCells, Sem.run_pure, e]
/-! ### A text of Byts; Byts of a text -/
theorem run_b2s {w : World} {a : Option Addr} {len c : Nat} {xs : List Int} (hl : xs.length = len) (h : len = 0 ∨ ∃ ad, a = some ad ∧ (loadCells ad len).run P w = .ok (xs.map fun x => Value.int .u8 x).toArray w) : (Conv.bytesToString (.slice a len c)).run P w = .ok (.string (bS xs)) w := by
  have loop : ∀ (ys : List Int) (s : ByteArray), (forIn (m := Sem) (ys.map fun x => Value.int .u8 x) s fun c s => match c with
      | .int .u8 n => pure (.yield (s.push (UInt8.ofNat n.toNat)))
      | _ => do
        stuck "bytesToString: byte expected"
        pure (.yield s)).run P w = .ok ⟨s.data ++ (bS ys).data⟩ w := by
    intro ys
    induction ys with
    | nil => intro s; simp [bS]
    | cons y ys ih =>
      intro s
      simp only [List.map_cons, List.forIn_cons, Sem.run_bind, Sem.run_pure, Result.andThen_ok]
      rw [ih]
      congr 2
      simp [bS, ByteArray.push, ← Array.append_singleton]
  cases a with
  | none =>
    rcases h with h | ⟨ad, h, _⟩
    · subst h
      have : xs = [] := List.length_eq_zero_iff.1 hl
      subst this
      rfl
    · cases h
  | some ad =>
    have hld : (loadCells ad len).run P w = .ok (xs.map fun x => Value.int .u8 x).toArray w := by
      rcases h with h | ⟨ad', h, h2⟩
      · subst h
        have : xs = [] := List.length_eq_zero_iff.1 hl
        subst this
        simp [loadCells, loadCellsFrom]
      · cases h; exact h2
    have := loop xs ByteArray.empty
    simp only [Conv.bytesToString, Sem.run_bind, hld, Result.andThen_ok, Array.forIn_toList, List.forIn_toArray]
    erw [this]
    show Result.ok (Value.string ⟨#[] ++ (bS xs).data⟩) w = _
    rw [Array.empty_append]
theorem step_b2s {ty ty2 el : TypeId} {x : Operand} {v : V} {xs : List Int} (ho : o.op = .convert ty ty2 x) (hx : ev t x = v) (hg : Gives v 1 (bytesV xs) pre) (hb : Byts xs) (hu : P.underlying ty = some (.slice el)) (hu2 : P.underlying ty2 = some .string) (he : P.underlying el = some (.int .u8)) (hsl : ∀ X u, VRep X v u → ∃ a c, u = .slice a xs.length c) : StepOK P o t pre [] (.sc (.string (bS xs))) := by
  refine step_value fun n X ρ hR hop hpre => ?_
  have h1 := hop x (by simp [ho, Op.operands])
  rw [hx] at h1
  obtain ⟨l1, l2, us, l3, l4, l5, l6⟩ := hg P n X _ hR h1 hpre
  obtain ⟨a, c, hs⟩ := hsl X _ h1
  refine ⟨.string (bS xs), exec_run (exec_convert ho) ?_, by simp [VRep]⟩
  have hus : us = xs.map fun x => Value.int .u8 x := by
    rw [bytesV_flat] at l3
    have : ∀ (ys : List Int) (vs : List Value), RowRep X (ys.map bV) vs → vs = ys.map fun x => Value.int .u8 x := by
      intro ys
      induction ys with
      | nil => intro vs h; simpa [RowRep] using h
      | cons y ys ih =>
        intro vs h
        simp only [List.map_cons, RowRep] at h
        obtain ⟨u, us', rfl, g1, g2⟩ := h
        simp only [bV, VRep] at g1
        rw [g1, ih us' g2]; rfl
    exact this xs us l3
  have hrun : (Conv.bytesToString (ρ x)).run P X.w = .ok (.string (bS xs)) X.w := by
    rw [hs]
    refine run_b2s rfl ?_
    by_cases h0 : xs.length = 0
    · exact .inl h0
    · refine .inr ?_
      have h6 := l6 X.w.drawn (bytesV xs).length (Nat.le_refl _)
      rw [hs] at h6
      cases a with
      | none =>
        exfalso
        simp only [Builtin.firstCells] at h6
        have h7 := congrArg (fun r => match r with | Result.ok (v : Array Value) _ => v.size | _ => 0) h6
        rw [bytesV_len] at h7
        have h8 : us.length = xs.length := by rw [hus]; simp
        simp [Sem.run_pure] at h7
        omega
      | some ad =>
        refine ⟨ad, rfl, ?_⟩
        rw [bytesV_len] at h6
        have h8 : us.length = xs.length := by rw [hus]; simp
        rw [Nat.mul_one, List.take_of_length_le (by omega), hus] at h6
        have e1 : Builtin.firstCells 1 xs.length (.slice (some ad) xs.length c) = loadCells ad (xs.length * 1) := rfl
        rw [e1, Nat.mul_one] at h6
        exact h6
  have hc : convert ty ty2 (ρ x) = (do match ← underlying ty, ← underlying ty2, ρ x with | _, _, _ => Conv.bytesToString (ρ x)) ∨ True := .inr trivial
  rw [hs] at hrun ⊢
  unfold convert
  simp only [Sem.run_bind, run_under hu, run_under hu2, Result.andThen_ok, run_under he]
  exact hrun
theorem sl_shape {v : V} {e : Nat} {xs : List (List V)} (h : IsSl v e xs) {m : Nat} (hm : xs.length = m) : ∀ X u, VRep X v u → ∃ a c, u = .slice a m c := by
  intro X u hv
  obtain ⟨a, c, h1, _⟩ := h.rep hv
  exact ⟨a, c, by rw [h1, hm]⟩
end
/-! ### Zeros appended -/
/-- What append comes to, its cells told. -/
def AppRuns (P : Program) (tys : Array TypeId) (ty0 el : TypeId) (e : Nat) (u : Value) (n : Nat) (new : List Value) (w : World) : Prop :=
  (∀ (a : Option Addr) (len cap : Nat) (w' : World), len + n ≤ cap → (match a with | some a => (storeCells (a.add (len * e)) new).run P w = .ok () w' | none => w' = w) → (Builtin.append_ tys ty0 #[.slice a len cap, u]).run P w = .ok (.slice a (len + n) cap) w') ∧
  ∀ (a : Option Addr) (len cap : Nat) (old : List Value), cap < len + n → len + n ≤ 1073741824 → (∀ d, (Builtin.firstCells e len (.slice a len cap)).run P { w with drawn := d } = .ok old.toArray { w with drawn := d }) →
    ∃ d c rest, len + n ≤ c ∧ rest.length = (c - (len + n)) * e ∧ (Builtin.append_ tys ty0 #[.slice a len cap, u]).run P w = .ok (.slice (some ⟨w.heap.size, 0, none⟩) (len + n) c) (({ w with drawn := d } : World).alloc (.cells (old ++ new ++ rest).toArray el (0, 0)))
section
variable {P : Program} {o : Oper} {t : Nat → V} {pre up : List (Nat × Box)} {val : V} {l : List (Nat × V)}
theorem append_reallocA {el : TypeId} {tys : Array TypeId} {e n k : Nat} {X : Ctx} {a : Option Addr} {cap : Nat} {u : Value} {xs ys : List (List V)} (hR : R n X) (hk : X.bx k = .dead ∨ ∃ m0, X.bx k = .tail m0 ∧ m0 < xs.length + ys.length) (hkn : k < n)
    (hxs : xs = [] ∨ ∃ b q, a = some ⟨b, q, none⟩ ∧ RowsAt X e xs b q) (hyl : ∀ r ∈ ys, r.length = e) (hlt : cap < xs.length + ys.length) (hb : xs.length + ys.length ≤ 1073741824) (ty0 : TypeId)
    {new : List Value} (hnr : RowRep X ys.flatten new) (hnl : new.length = ys.length * e) (hn1 : ∀ x ∈ new, oneV x = true) (hA : AppRuns P tys ty0 el e u ys.length new X.w) :
    ∃ X' u', (Builtin.append_ tys ty0 #[.slice a xs.length cap, u]).run P X.w = .ok u' X'.w ∧ X'.bx = upd X.bx k (.tail (xs.length + ys.length)) ∧ R n X' ∧ Ext X X' ∧ VRep X' (.own e (xs ++ ys) k) u' := by
  have hold : ∃ old, RowRep X xs.flatten old ∧ old.length = xs.length * e ∧ (∀ x ∈ old, oneV x = true) ∧ (∀ r ∈ xs, r.length = e) ∧ ∀ d, (Builtin.firstCells e xs.length (.slice a xs.length cap)).run P { X.w with drawn := d } = .ok old.toArray { X.w with drawn := d } := by
    rcases hxs with rfl | ⟨b, q, rfl, h3⟩
    · refine ⟨[], by simp [RowRep], by simp, by simp, by simp, fun d => ?_⟩
      cases a with
      | none => rfl
      | some a => simp [Builtin.firstCells, loadCells, loadCellsFrom]
    · obtain ⟨us, g1, g2, g3, g4⟩ := h3.flat
      refine ⟨us, g1, g2, g4, h3.lens, fun d => ?_⟩
      have := run_loadCells_list (P := P) { X.w with drawn := d } ⟨b, q, none⟩ us (fun j v hj => by rw [addr_add]; exact g3 j v hj)
      rw [g2] at this
      exact this
  obtain ⟨old, o1, o2, o3, o4, o5⟩ := hold
  obtain ⟨d, c, rest, hc, hrl, hrun⟩ := hA.2 a xs.length cap old hlt hb o5
  obtain ⟨X', x1, x2, x3, x4, x5⟩ := new_grow (k := k) (m := xs.length + ys.length) (st := (xs.length + ys.length) * e) (cells := (old ++ new ++ rest).toArray) (ty := el) hR hk hkn d
  have hh : X'.w.heap[X.w.heap.size]? = some (.cells ((old ++ new) ++ rest).toArray el (0, 0)) := by
    rw [x2]
    show (X.w.heap.push _)[X.w.heap.size]? = _
    simp
  have hrr : RowRep X' (xs ++ ys).flatten (old ++ new) := by
    rw [List.flatten_append]
    exact RowRep.mono x5 _ _ (o1.append hnr)
  have h11 : ∀ x ∈ old ++ new, oneV x = true := fun x hx => (List.mem_append.1 hx).elim (o3 x) (hn1 x)
  have hll : ∀ r ∈ xs ++ ys, r.length = e := fun r hr => (List.mem_append.1 hr).elim (o4 r) (hyl r)
  have hrows := stb_new (X := X) x3 hh (by rw [List.length_append, o2, hnl, Nat.add_mul]) hrr hll h11
  refine ⟨X', _, by rw [hrun, ← x2], x1, x4, x5, ?_⟩
  simp only [VRep]
  refine ⟨some ⟨X.w.heap.size, 0, none⟩, c, by rw [List.length_append], by rw [List.length_append]; exact hc, .inr ⟨_, _, rfl, hrows⟩, xs.length + ys.length, by rw [x1, upd_eq], Nat.le_of_eq List.length_append, fun _ => .inr ?_⟩
  refine ⟨X.w.heap.size, 0, _, _, el, rfl, x3, by rw [List.length_append]; omega, hh, ?_⟩
  simp only [List.size_toArray, List.length_append, o2, hnl, hrl]
  rw [← Nat.add_mul, ← Nat.add_mul]
  rw [show xs.length + ys.length + (c - (xs.length + ys.length)) = c by omega]
  omega
theorem step_append_ownA {el : TypeId} {tys : Array TypeId} {e k : Nat} {x y : Operand} {vy : V} {xs ys : List (List V)} (ho : o.op = .call { callee := .builtin .append, args := #[x, y], argTypes := tys })
    (hx : ev t x = .own e xs k) (hy : ev t y = vy) (hvy : ∀ n X u, R n X → VRep X vy u → (∀ p ∈ pre, X.bx p.1 = p.2) → (∀ r ∈ ys, r.length = e) ∧ ∃ new, RowRep X ys.flatten new ∧ new.length = ys.length * e ∧ (∀ x ∈ new, oneV x = true) ∧ AppRuns P tys o.type el e u ys.length new X.w) (hb : xs.length + ys.length ≤ 1073741824) :
    StepOK P o t ((k, .tail xs.length) :: pre) [(k, .tail (xs ++ ys).length)] (.own e (xs ++ ys) k) := by
  rw [List.length_append]
  intro n X a next Q hR hop hpre hup hk
  have g1 := hop x (by simp [ho, Op.operands, Call.operands])
  have g2 := hop y (by simp [ho, Op.operands, Call.operands])
  rw [hx] at g1; rw [hy] at g2
  have hkd : X.bx k = .tail xs.length := hpre (k, .tail xs.length) (by simp)
  have hkn : k < n := hup (k, .tail (xs.length + ys.length)) (by simp)
  obtain ⟨l2, new, l3, l4, l5, lA⟩ := hvy n X _ hR g2 (fun p hp => hpre p (List.mem_cons_of_mem _ hp))
  have g1' := g1
  simp only [VRep] at g1
  obtain ⟨ad, cap, s1, s2, s3, n0, s4, s5, s6⟩ := g1
  rw [hkd] at s4
  cases s4
  have hex : execOp a.eval o = (do pure (.value (← Builtin.append_ tys o.type #[a.eval x, a.eval y]))) := by
    rw [exec_builtin ho]
    have e1 : (#[x, y].map a.eval : Array Value) = #[a.eval x, a.eval y] := by simp
    rw [e1]; rfl
  have key : ∃ X' u', (Builtin.append_ tys o.type #[a.eval x, a.eval y]).run P X.w = .ok u' X'.w ∧ X'.bx = upd X.bx k (.tail (xs.length + ys.length)) ∧ R n X' ∧ Ext X X' ∧ VRep X' (.own e (xs ++ ys) k) u' := by
    by_cases hys : ys.length = 0
    · have hy0 : ys = [] := List.length_eq_zero_iff.1 hys
      subst hy0
      have hnew : new = [] := by simp at l4; exact List.length_eq_zero_iff.1 (by simpa using l4)
      subst hnew
      rw [s1] at g1' ⊢
      refine ⟨X, _, lA.1 _ _ _ X.w (by simpa using s2) ?_, ?_, hR, Ext.refl X, by simpa using g1'⟩
      · cases ad with
        | none => rfl
        | some ad => simp [storeCells]
      · funext j
        by_cases e1 : j = k
        · subst e1; rw [upd_eq, hkd]; rfl
        · rw [upd_ne _ _ _ _ e1]
    · rw [s1]
      by_cases hroom : xs.length + ys.length ≤ cap
      · rcases s6 rfl with h7 | ⟨b, q, st, arr, ty', h7, h8, h9, h10, h11⟩
        · omega
        · subst h7
          have he0 : ys.length * e = new.length := l4.symm
          have hcape : (xs.length + ys.length) * e ≤ cap * e := Nat.mul_le_mul hroom (Nat.le_refl _)
          rw [Nat.add_mul] at hcape
          obtain ⟨w', r1, r2, r3, r4, r5, r6, r7⟩ := run_storeCells (P := P) (b := b) new st 0 X.w arr.toList ty' (by simpa using h10) (by simp; omega) l5
          have hsame : ∀ j, j < st → (arr.toList.take (st + 0) ++ new ++ arr.toList.drop (st + 0 + new.length))[j]? = arr.toList[j]? := by
            intro j hj
            have hlt : j < arr.toList.length := by simp; omega
            rw [List.append_assoc, List.getElem?_append_left (by simp; omega), List.getElem?_take, if_pos (by omega)]
          obtain ⟨t1, t2⟩ := grow_in (m := xs.length + ys.length) (st' := st + new.length) hR hkd (by omega) h8 (by omega) (us := arr.toList) (by simpa using h10) r2 r3 r4 r5 r6 r7 hsame
          have hb1 : a.eval y = a.eval y := rfl
          refine ⟨_, _, lA.1 _ _ _ w' hroom ?_, rfl, t1, t2, ?_⟩
          · show (storeCells ((⟨b, q, none⟩ : Addr).add (xs.length * e)) new).run P X.w = _
            rw [addr_add, h9]; exact r1
          · have hrows : RowsAt { X with O := upd X.O b (.grow k (st + new.length)), bx := upd X.bx k (.tail (xs.length + ys.length)), w := w' } e (xs ++ ys) b q := by
              have hnew : RowsAt { X with O := upd X.O b (.grow k (st + new.length)), bx := upd X.bx k (.tail (xs.length + ys.length)), w := w' } e ys b st := by
                refine rowsAt_of (RowRep.mono t2 _ _ l3) l2 (fun j v hj => ?_) (fun j hj => ?_) l5
                · show w'.cell? _ = _
                  have hjl : j < new.length := (List.getElem?_eq_some_iff.1 hj).1
                  have hsl : st ≤ arr.toList.length := by simp; omega
                  rw [cell_some r7, List.append_assoc, List.getElem?_append_right (by rw [List.length_take]; omega), List.getElem?_append_left (by rw [List.length_take]; omega)]
                  have : st + j - (List.take (st + 0) arr.toList).length = j := by rw [List.length_take]; omega
                  rw [this]; exact hj
                · show Stb (upd X.O b _ b) _
                  rw [upd_eq]; show st + j < st + new.length; omega
              rcases s3 with rfl | ⟨b', q', h12, h13⟩
              · simp at h9; subst h9; simpa using hnew
              · cases h12
                refine RowsAt.append (RowsAt.mono t2 e xs b q h13) ?_
                rw [h9]; exact hnew
            simp only [VRep]
            refine ⟨some ⟨b, q, none⟩, cap, by rw [List.length_append], by rw [List.length_append]; exact hroom, .inr ⟨b, q, rfl, hrows⟩, xs.length + ys.length, upd_eq _ _ _, Nat.le_of_eq List.length_append, fun _ => .inr ?_⟩
            refine ⟨b, q, st + new.length, _, ty', rfl, upd_eq _ _ _, ?_, r7, ?_⟩
            · rw [List.length_append, Nat.add_mul]; omega
            · simp; omega
      · exact append_reallocA hR (.inr ⟨_, hkd, by omega⟩) hkn s3 l2 (by omega) hb o.type l3 l4 l5 lA
  obtain ⟨X', u', k1, k2, k3, k4, k5⟩ := key
  unfold Oper.wp
  rw [exec_run hex k1]
  exact hk X' u' k2 k3 k4 k5
theorem app_zeros {ty el ty2 : TypeId} {tys : Array TypeId} {e n : Nat} {w : World} {z : Value} {k : IntKind} (h0 : tys[0]? = some ty) (h1 : tys[1]? = some ty2) (hu : P.underlying ty = some (.slice el)) (hu2 : P.underlying ty2 = some (.int .i64)) (he : ElemT P el e) (hz : (P.info? el).bind (·.zero) = some z) (hzs : z.cells.size = e) (hn : n ≤ 1073741824) (ty0 : TypeId) :
    AppRuns P tys ty0 el e (.int k n) n (if n * e = 0 then [] else (Builtin.zeroCells z.cells n).toList) w := by
  obtain ⟨hs, _, i, hi, hib⟩ := he
  have hti : ∀ w, (typeInfo el).run P w = .ok i w := fun w => by simp [typeInfo, hi]
  have hw : IntKind.i64.wrap (n : Int) = n := w64 (by omega)
  have hroom : ∀ m w, (askRoom m).run P w = .ok () w := by intro m w; unfold askRoom; split <;> rfl
  have hlb : ¬ ((n : Int) * (i.bytes : Int) > 2 ^ 48) := by
    have h1 : n * i.bytes ≤ 1073741824 * 4096 := Nat.mul_le_mul hn hib
    have h2 : ((n * i.bytes : Nat) : Int) ≤ ((1073741824 * 4096 : Nat) : Int) := Int.ofNat_le.2 h1
    rw [Int.natCast_mul] at h2
    omega
  have hneg : ¬ ((n : Int) < 0) := by omega
  have hai : ∀ w, (asInt (.int k n)).run P w = .ok (n : Int) w := fun w => rfl
  have happ : ∀ w, (if n * e = 0 then (pure #[] : Sem (Array Value)) else do pure (Builtin.zeroCells (← zeroValue el).cells n)).run P w = .ok (if n * e = 0 then [] else (Builtin.zeroCells z.cells n).toList).toArray w := by
    intro w
    split
    · rfl
    · simp only [Sem.run_bind, run_zero hz, Result.andThen_ok, Sem.run_pure]
  refine ⟨fun a len cap w' hle hst => ?_, fun a len cap old hlt hb ho => ?_⟩
  · unfold Builtin.append_
    simp only [h0, h1, List.getElem?_toArray, List.getElem?_cons_zero, List.getElem?_cons_succ, Sem.run_bind, run_under hu, run_under hu2, Result.andThen_ok, run_size hs, Sem.run_pure, if_true, Bool.not_true, Bool.false_eq_true, if_false, hai, hw, hneg, hti, hlb, Int.toNat_natCast, hle, happ]
    cases a with
    | none => simp only at hst; subst hst; rfl
    | some a => simp only at hst; simp only [hst, Sem.run_bind, Result.andThen_ok, Sem.run_pure]
  · have hbnd : Builtin.nextslicecap (len + n) cap * i.bytes ≤ 2 ^ 48 := by
      have h2 := nextslicecap_le (len + n) cap hlt
      calc Builtin.nextslicecap (len + n) cap * i.bytes ≤ (2 * (len + n) + 512) * 4096 := Nat.mul_le_mul h2 hib
        _ ≤ 2 ^ 48 := by omega
    let q : Question := .appendCap (len + n) cap el
    let c := q.cut (w.tape w.drawn q)
    have hc : len + n ≤ c := by show len + n ≤ (len + n) + _ % _; omega
    refine ⟨w.drawn + 1, c, (Builtin.zeroCells z.cells (c - (len + n))).toList, hc, by simp [zeroCells_size, hzs], ?_⟩
    have hchoose : (choose q).run P w = .ok c { w with drawn := w.drawn + 1 } := by simp [choose, Sem.run, q, Question.forced, c]
    have hnle : ¬ len + n ≤ cap := by omega
    have hi0 : ¬ (((len + n : Nat) : Int) > IntKind.i64.max) := by rw [IntKind.max_i64]; omega
    unfold Builtin.append_
    simp only [h0, h1, List.getElem?_toArray, List.getElem?_cons_zero, List.getElem?_cons_succ, Sem.run_bind, run_under hu, run_under hu2, Result.andThen_ok, run_size hs, Sem.run_pure, if_true, Bool.not_true, Bool.false_eq_true, if_false, hai, hw, hneg, hti, hlb, Int.toNat_natCast, hnle, hi0, false_and]
    rw [if_neg (by omega)]
    simp only [Sem.run_bind, hti, Result.andThen_ok]
    rw [show (Question.appendCap (len + n) cap el) = q from rfl, hchoose]
    simp only [Result.andThen_ok, hroom, ho, happ, run_zero hz, newRow, newObj, Sem.run_bind]
    have e1 : ∀ nw : List Value, (old ++ nw ++ (Builtin.zeroCells z.cells (c - (len + n))).toList).toArray = old.toArray ++ nw.toArray ++ Builtin.zeroCells z.cells (c - (len + n)) := by simp
    rw [e1]
    rfl
theorem step_append_z {ty el ty2 : TypeId} {tys : Array TypeId} {e k m : Nat} {x y : Operand} {kd : IntKind} {z : Value} {zs : List Value} {xs : List (List V)} (ho : o.op = .call { callee := .builtin .append, args := #[x, y], argTypes := tys })
    (h0 : tys[0]? = some ty) (h1 : tys[1]? = some ty2) (hu : P.underlying ty = some (.slice el)) (hu2 : P.underlying ty2 = some (.int .i64)) (he : ElemT P el e) (hz : (P.info? el).bind (·.zero) = some z) (hzs : z.cells.toList = zs) (hzl : zs.length = e) (h1v : zs.all oneV = true)
    (hx : ev t x = .own e xs k) (hy : ev t y = .sc (.int kd m)) (hb : xs.length + m ≤ 1073741824) :
    StepOK P o t [(k, .tail xs.length)] [(k, .tail (xs ++ List.replicate m (zs.map V.sc)).length)] (.own e (xs ++ List.replicate m (zs.map V.sc)) k) := by
  refine step_append_ownA (el := el) ho hx hy (fun n X u hR hv _ => ?_) (by simpa using hb)
  simp only [VRep] at hv
  subst hv
  refine ⟨fun r hr => by rw [List.eq_of_mem_replicate hr]; simpa using hzl, _, ?_, ?_, ?_, by
    have := app_zeros (n := m) (w := X.w) (k := kd) h0 h1 hu hu2 he hz (by rw [← Array.length_toList, hzs]; exact hzl) (by omega) o.type
    rw [List.length_replicate]; exact this⟩
  · have hzr := zero_rows z e (by rw [← Array.length_toList, hzs]; exact hzl) m
    rw [hzs] at hzr
    have hrow : ∀ m, RowRep X (List.replicate m (zs.map V.sc)).flatten (List.replicate m zs).flatten := by
      intro m
      induction m with
      | zero => simp [RowRep]
      | succ m ih => simp only [List.replicate_succ, List.flatten_cons]; exact (rowRep_sc X zs).append ih
    have hzc : (Builtin.zeroCells z.cells m).toList = (List.replicate m zs).flatten := by
      rw [← hzr]
      have : z.cells.size = e := by rw [← Array.length_toList, hzs]; exact hzl
      unfold Builtin.zeroCells; rw [this]
    split
    · rename_i h
      rcases Nat.mul_eq_zero.1 h with h | h
      · subst h; simp [RowRep]
      · have : zs = [] := List.length_eq_zero_iff.1 (by omega)
        subst this
        have h2 := hrow m
        simpa using h2
    · rw [hzc]; exact hrow m
  · rw [List.length_replicate]
    split
    · rename_i h; rw [h]; rfl
    · have : z.cells.size = e := by rw [← Array.length_toList, hzs]; exact hzl
      simp [zeroCells_size, this]
  · intro x hx
    by_cases h : m * e = 0
    · rw [if_pos h] at hx; cases hx
    · rw [if_neg h] at hx
      simp only [Builtin.zeroCells, Array.toList_map, List.mem_map] at hx
      obtain ⟨j, _, rfl⟩ := hx
      have hpos : 0 < z.cells.size := by
        rw [← Array.length_toList, hzs, hzl]
        exact Nat.pos_of_ne_zero (fun h0 => h (by rw [h0, Nat.mul_zero]))
      have hm : z.cells[j % z.cells.size]! ∈ zs := by
        rw [← hzs, getElem!_pos z.cells _ (Nat.mod_lt _ hpos)]
        exact Array.getElem_mem_toList _
      exact List.all_eq_true.1 h1v _ hm
/-! ### Texts put together, compared -/
section
variable {B : Bas} {N n : Nat} {Q : Exit → S → Prop} {ops : Array Oper} {L : List Oper} {bx : Nat → Box} {acc : List Ac} {ty ty2 : TypeId} {x y : Operand} {d : Nat} {a b : ByteArray}
end
end
end Go.Vm

/- A logic of values over the model. Part P: numbers as bytes. -/
set_option linter.unusedVariables false
set_option linter.unusedSimpArgs false
namespace Go.Vm
def I64 (x : Int) : Prop := -9223372036854775808 ≤ x ∧ x ≤ 9223372036854775807
def U64 (v : Int) : Prop := 0 ≤ v ∧ v < 18446744073709551616
def U32 (v : Int) : Prop := 0 ≤ v ∧ v < 4294967296
theorem tl_eq {b : Box} {m n : Nat} (h : b = .tail m) (e : m = n) : b = .tail n := by rw [h, e]
theorem Does.res {P : Program} {f : FuncId} {vs : List V} {pre up : List (Nat × Box)} {r r' : V} (h : Does P f vs pre up r) (hl : VLe r r') : Does P f vs pre up r' := fun n X args h1 h2 h3 h4 => (h n X args h1 h2 h3 h4).mono fun e w' ⟨X', u, g1, g2, g3, g4, g5, g6⟩ => ⟨X', u, g1, hl _ _ g2, g3, g4, g5, g6⟩
theorem uE {α : Type} {f : Nat → α} {k : Nat} {v : α} : upd f k v k = v := upd_eq f k v
theorem uN {α : Type} {f : Nat → α} {k i : Nat} {v b : α} (h : i ≠ k) (h2 : f i = b) : upd f k v i = b := (upd_ne f k v i h).trans h2
theorem bytes_nil : Byts [] := fun x h => by cases h
theorem bytes_app {a b : List Int} (ha : Byts a) (hb : Byts b) : Byts (a ++ b) := fun x h => (List.mem_append.1 h).elim (ha x) (hb x)
theorem bytes_take {r : List Int} (h : Byts r) (n : Nat) : Byts (r.take n) := fun x hx => h x (List.mem_of_mem_take hx)
theorem bytes_drop {r : List Int} (h : Byts r) (n : Nat) : Byts (r.drop n) := fun x hx => h x (List.mem_of_mem_drop hx)
theorem bytes_rep (n : Nat) {x : Int} (h : 0 ≤ x ∧ x < 256) : Byts (List.replicate n x) := fun y hy => by rw [List.eq_of_mem_replicate hy]; exact h
theorem bytes_one {x : Int} (h : 0 ≤ x ∧ x < 256) : Byts [x] := fun y hy => by rw [List.mem_singleton.1 hy]; exact h
theorem at_any {b : List Int} (hb : Byts b) (i : Int) : 0 ≤ at' b i ∧ at' b i < 256 := by
  unfold at'
  by_cases h : i.toNat < b.length
  · rw [List.getD, List.getElem?_eq_getElem h]; exact hb _ (List.getElem_mem _)
  · rw [List.getD, List.getElem?_eq_none (by omega)]; exact ⟨Int.le_refl _, by decide⟩
def beN (b : List Int) : Int := b.foldl (fun n c => n * 256 + c) 0
theorem beN_snoc (b : List Int) (c : Int) : beN (b ++ [c]) = beN b * 256 + c := by simp [beN]
theorem beN_take {b : List Int} {j : Nat} (h : j < b.length) : beN (b.take (j + 1)) = beN (b.take j) * 256 + at' b (j : Int) := by
  rw [at_nat _ _ h, List.take_add_one, List.getElem?_eq_getElem h]; exact beN_snoc _ _
theorem beN_lt : ∀ (j : Nat) (b : List Int), Byts b → j ≤ b.length → 0 ≤ beN (b.take j) ∧ beN (b.take j) < 256 ^ j
  | 0, b, _, _ => by simp [beN]
  | j + 1, b, hb, h => by
    obtain ⟨h1, h2⟩ := beN_lt j b hb (by omega)
    have h3 := hb _ (List.getElem_mem (show j < b.length by omega))
    rw [beN_take (by omega), at_nat _ _ (show j < b.length by omega)]
    have h4 : (256 : Int) ^ (j + 1) = 256 ^ j * 256 := rfl
    omega
theorem beN_8 {b : List Int} {j : Nat} (hb : Byts b) (hl : j ≤ b.length) (h : j < 8) : 0 ≤ beN (b.take j) ∧ beN (b.take j) < 72057594037927936 := by
  obtain ⟨h1, h2⟩ := beN_lt j b hb hl
  refine ⟨h1, Int.lt_of_lt_of_le h2 ?_⟩
  have h3 : 256 ^ j ≤ 256 ^ 7 := Nat.pow_le_pow_right (by decide) (by omega)
  have h5 : ((256 ^ j : Nat) : Int) ≤ ((256 ^ 7 : Nat) : Int) := Int.ofNat_le.2 h3
  have h6 : ((256 ^ 7 : Nat) : Int) = 72057594037927936 := by decide
  rw [h6] at h5
  rwa [Int.natCast_pow] at h5
/-- A number's low k Byts, the highest first. -/
def beB : Nat → Int → List Int
  | 0, _ => []
  | k + 1, v => beB k (v / 256) ++ [v % 256]
theorem beB_len : ∀ (k : Nat) (v : Int), (beB k v).length = k
  | 0, _ => rfl
  | k + 1, v => by simp [beB, beB_len k]
theorem beB_bytes : ∀ (k : Nat) (v : Int), Byts (beB k v)
  | 0, _ => fun x h => by cases h
  | k + 1, v => fun x h => by
    rcases List.mem_append.1 h with h | h
    · exact beB_bytes k _ x h
    · rw [List.mem_singleton] at h; subst h; omega
theorem wrap_u8 (x : Int) : IntKind.u8.wrap x = x % 256 := by unfold IntKind.wrap; simp [IntKind.signed, IntKind.bits]
/-- The Byts off the highest on. -/
theorem beB_cons : ∀ (k : Nat) (v : Int), beB (k + 1) v = (v / 256 ^ k % 256) :: beB k v
  | 0, v => by simp [beB]
  | k + 1, v => by
    rw [beB, beB_cons k (v / 256), beB]
    have : v / 256 / 256 ^ k = v / 256 ^ (k + 1) := by
      rw [Int.ediv_ediv, if_neg (by omega), Int.sub_zero, Int.pow_succ, Int.mul_comm]
    rw [this]; rfl
theorem beB_drop (k j : Nat) (v : Int) (h : j ≤ k) : (beB k v).drop (k - j) = beB j v := by
  induction k with
  | zero => have : j = 0 := by omega
            subst this; rfl
  | succ k ih =>
    by_cases hj : j = k + 1
    · subst hj; simp
    · rw [beB_cons, show k + 1 - j = (k - j) + 1 by omega, List.drop_succ_cons]
      exact ih (by omega)
theorem beB_step {k j : Nat} (v : Int) (h : j < k) : (beB k v).take (j + 1) = (beB k v).take j ++ [v / 256 ^ (k - 1 - j) % 256] := by
  have hl := beB_len k v
  rw [List.take_add_one]
  congr 1
  have h1 : (beB k v).drop j = beB (k - j) v := by have := beB_drop k (k - j) v (by omega); rwa [show k - (k - j) = j by omega] at this
  have h2 : (beB k v)[j]? = ((beB k v).drop j)[0]? := by rw [List.getElem?_drop]; rfl
  rw [h2, h1, show k - j = (k - 1 - j) + 1 by omega, beB_cons]
  rfl
theorem beB_high {v : Int} (hv : U64 v) (k : Nat) (h : 8 ≤ k) : v / 256 ^ k % 256 = 0 := by
  have h1 : (256 : Int) ^ 8 ≤ 256 ^ k := by
    have h3 : 256 ^ 8 ≤ 256 ^ k := Nat.pow_le_pow_right (by decide) h
    have := Int.ofNat_le.2 h3
    rwa [Int.natCast_pow, Int.natCast_pow] at this
  rw [Int.ediv_eq_zero_of_lt hv.1 (Int.lt_of_lt_of_le hv.2 h1)]; rfl
theorem shr_byte {v : Int} {i : Int} {m : Nat} (hi : i = 8 * (m : Int)) (hm : m ≤ 7) : v.fdiv (2 ^ (min i.toNat IntKind.u64.bits)) = v / 256 ^ m := by
  have e : min i.toNat IntKind.u64.bits = 8 * m := by show min i.toNat 64 = _; omega
  rw [e, Int.pow_mul, Int.fdiv_eq_ediv_of_nonneg _ (by
    have : (0 : Int) ≤ (2 ^ 8) ^ m := Int.pow_nonneg (by decide)
    exact this)]
  rfl
theorem beN_beB : ∀ (k : Nat) (v : Int), 0 ≤ v → v < 256 ^ k → beN (beB k v) = v
  | 0, v, h0, h1 => by
    have : v = 0 := by simp at h1; omega
    subst this; rfl
  | k + 1, v, h0, h1 => by
    have e : (256 : Int) ^ (k + 1) = 256 ^ k * 256 := rfl
    rw [beB, beN_snoc, beN_beB k (v / 256) (by omega) (by rw [e] at h1; omega)]
    omega
end Go.Vm
namespace Go.Vm
theorem vle_osl {e k : Nat} {a b : List (List V)} (h : a = b) : VLe (.own e a k) (.sl e b) := by rw [h]; exact VLe.own_sl _ _ _
theorem at_mem {α : Type} [Inhabited α] {xs : List α} {i : Int} (h0 : 0 ≤ i) (h : i < xs.length) : at' xs i ∈ xs := by
  obtain ⟨j, rfl⟩ : ∃ j : Nat, i = j := ⟨i.toNat, by omega⟩
  rw [at_nat _ _ (by omega)]; exact List.getElem_mem _
/-- A text's field. -/
def fieldB (s : ByteArray) (m : Nat) : List Int := [(s.size : Int)] ++ sB s ++ List.replicate (m - 1 - s.size) 0
theorem fieldB_len {s : ByteArray} {m : Nat} (h : s.size < m) : (fieldB s m).length = m := by simp [fieldB, sB_len]; omega
theorem fieldB_byts {s : ByteArray} {m : Nat} (h : s.size < 256) : Byts (fieldB s m) := bytes_app (bytes_app (bytes_one ⟨by omega, by omega⟩) (sB_bytes s)) (bytes_rep _ (by omega))
end Go.Vm
namespace Go.Vm
theorem step_com {P : Program} {o : Oper} {t : Nat → V} {ty : TypeId} {x : Operand} {k : IntKind} {a r : Int} (ho : o.op = .unOp .xor ty x) (hx : ev t x = .sc (.int k a)) (h : bits .xor k (if k.signed then -1 else k.max) a = r) : StepOK P o t [] [] (.sc (.int k r)) :=
  step_unOp ho hx fun w => by subst h; simp only [Op.unary, intBits_xor]; rfl
end Go.Vm

/- A logic of values over the model. Part Q: the checksum's shift register. -/
set_option linter.unusedVariables false
set_option linter.unusedSimpArgs false
namespace Go.Vm.Crc
open Go.RowKit
def M (x : BitVec 32) : BitVec 32 := (x >>> 1) ^^^ (if x.getLsbD 0 then 0x82f63b78#32 else 0#32)
def it : Nat → BitVec 32 → BitVec 32
  | 0, x => x
  | j + 1, x => it j (M x)

theorem M_xor (x y : BitVec 32) : M (x ^^^ y) = M x ^^^ M y := by
  unfold M
  rw [BitVec.ushiftRight_xor_distrib, BitVec.getLsbD_xor]
  generalize x >>> 1 = a
  generalize y >>> 1 = b
  cases x.getLsbD 0 <;> cases y.getLsbD 0 <;> simp only [Bool.xor_false, Bool.xor_true, Bool.not_false, Bool.not_true, Bool.false_eq_true, if_true, if_false, BitVec.xor_zero]
  · ac_rfl
  · ac_rfl
  · have : a ^^^ 0x82f63b78#32 ^^^ (b ^^^ 0x82f63b78#32) = (a ^^^ b) ^^^ (0x82f63b78#32 ^^^ 0x82f63b78#32) := by ac_rfl
    rw [this, BitVec.xor_self, BitVec.xor_zero]
theorem it_xor (j : Nat) : ∀ x y, it j (x ^^^ y) = it j x ^^^ it j y := by
  induction j with
  | zero => intro x y; rfl
  | succ j ih => intro x y; simp only [it, M_xor, ih]
theorem it_add (i j : Nat) : ∀ x, it (i + j) x = it j (it i x) := by
  induction i with
  | zero => intro x; simp [it]
  | succ i ih => intro x; rw [Nat.succ_add]; simp only [it, ih]
theorem M_low (x : BitVec 32) (h : x.getLsbD 0 = false) : M x = x >>> 1 := by
  unfold M; rw [h]; simp
theorem it_low (j : Nat) : ∀ y : BitVec 32, (∀ i, i < j → y.getLsbD i = false) → it j y = y >>> j := by
  induction j with
  | zero => intro y _; simp [it]
  | succ j ih =>
    intro y h
    simp only [it]
    rw [M_low y (h 0 (by omega)), ih _ (fun i hi => by rw [BitVec.getLsbD_ushiftRight]; exact h (1 + i) (by omega)), ← BitVec.shiftRight_add]
    congr 1; omega
theorem mask_bit (j i : Nat) (hj : j ≤ 32) : (BitVec.ofNat 32 (2 ^ j - 1)).getLsbD i = decide (i < j) := by
  rw [BitVec.getLsbD_ofNat, Nat.testBit_two_pow_sub_one]
  by_cases h : i < j
  · simp [h]; omega
  · simp [h]
/-- The low bits go through the register, the others are shifted. -/
theorem it_split (j : Nat) (hj : j ≤ 32) (x : BitVec 32) : it j x = it j (x &&& BitVec.ofNat 32 (2 ^ j - 1)) ^^^ (x >>> j) := by
  have e : x = (x &&& BitVec.ofNat 32 (2 ^ j - 1)) ^^^ (x ^^^ (x &&& BitVec.ofNat 32 (2 ^ j - 1))) := by
    rw [← BitVec.xor_assoc, BitVec.xor_comm _ x, BitVec.xor_assoc, BitVec.xor_self, BitVec.xor_zero]
  conv => lhs; rw [e]
  rw [it_xor]
  congr 1
  rw [it_low j _ (fun i hi => by rw [BitVec.getLsbD_xor, BitVec.getLsbD_and, mask_bit j i hj]; simp [hi])]
  apply BitVec.eq_of_getLsbD_eq
  intro i hi
  rw [BitVec.getLsbD_ushiftRight, BitVec.getLsbD_ushiftRight, BitVec.getLsbD_xor, BitVec.getLsbD_and, mask_bit j _ hj]
  have hz : decide (j + i < j) = false := by simp
  rw [hz, Bool.and_false, Bool.xor_false]

/-- Bits, one by one, of a number. -/
def G : BitVec 32 → Nat → Nat → BitVec 32
  | s, _, 0 => s
  | s, E, j + 1 => G (M (s ^^^ BitVec.ofNat 32 (E % 2))) (E / 2) j
theorem ofNat_xor (a b : Nat) : BitVec.ofNat 32 (a ^^^ b) = BitVec.ofNat 32 a ^^^ BitVec.ofNat 32 b := by
  apply BitVec.eq_of_getLsbD_eq; intro i hi
  rw [BitVec.getLsbD_xor, BitVec.getLsbD_ofNat, BitVec.getLsbD_ofNat, BitVec.getLsbD_ofNat, Nat.testBit_xor]; simp [hi]
theorem G_it (j : Nat) : ∀ s E, j ≤ 32 → E < 2 ^ j → G s E j = it j (s ^^^ BitVec.ofNat 32 E) := by
  induction j with
  | zero => intro s E _ h; have : E = 0 := by omega
            subst this; simp [G, it]
  | succ j ih =>
    intro s E hj h
    simp only [G, it]
    rw [ih _ _ (by omega) (by rw [Nat.pow_succ] at h; omega)]
    congr 1
    have e : E = (E % 2) ^^^ (E / 2 * 2) := by
      apply Nat.eq_of_testBit_eq; intro i
      rw [Nat.testBit_xor]
      match i with
      | 0 => simp [Nat.testBit_zero]
      | i + 1 => simp [Nat.testBit_succ, show E % 2 / 2 = 0 from by omega]
    have e0 : (BitVec.ofNat 32 (E / 2 * 2)).getLsbD 0 = false := by
      rw [BitVec.getLsbD_ofNat]; simp [Nat.testBit_zero]
    have e1 : M (BitVec.ofNat 32 (E / 2 * 2)) = BitVec.ofNat 32 (E / 2) := by
      rw [M_low _ e0]
      apply BitVec.eq_of_toNat_eq
      have h32 : E / 2 * 2 < 2 ^ 32 := Nat.lt_of_lt_of_le (by omega) (Nat.pow_le_pow_right (by omega) hj)
      rw [BitVec.toNat_ushiftRight, BitVec.toNat_ofNat, BitVec.toNat_ofNat, Nat.mod_eq_of_lt h32, Nat.mod_eq_of_lt (by omega), Nat.shiftRight_eq_div_pow]
      omega
    conv => rhs; rw [e, ofNat_xor, ← BitVec.xor_assoc, M_xor, e1]
def nB (v : BitVec 32) : Int := (v.toNat : Int)
theorem n_xor (a b : BitVec 32) : bits .xor .u32 (nB a) (nB b) = nB (a ^^^ b) := by
  rw [nB, nB, u32_xor_nat a.toNat b.toNat a.isLt b.isLt]; simp [nB]
theorem n_and (a b : BitVec 32) : bits .and .u32 (nB a) (nB b) = nB (a &&& b) := by
  rw [nB, nB, u32_and_nat a.toNat b.toNat a.isLt b.isLt]; simp [nB]
theorem n_shr (a : BitVec 32) (k : Nat) : nB a / (2 : Int) ^ k = nB (a >>> k) := by
  simp [nB, BitVec.toNat_ushiftRight, Nat.shiftRight_eq_div_pow]
theorem n_and1 (a : BitVec 32) : bits .and .u32 (nB a) 1 = nB (a &&& 1#32) := n_and a 1#32
theorem n_and15 (a : BitVec 32) : bits .and .u32 (nB a) 15 = nB (a &&& 15#32) := n_and a 15#32
theorem n_poly (a : BitVec 32) : bits .xor .u32 (nB a) 2197175160 = nB (a ^^^ 0x82f63b78#32) := n_xor a 0x82f63b78#32
theorem n_ofNat (c : Nat) (h : c < 4294967296) : nB (BitVec.ofNat 32 c) = c := by simp [nB]; omega
theorem n_bit (v : BitVec 32) : (nB (v &&& 1#32) = 1) ↔ v.getLsbD 0 = true := by
  rw [nB, BitVec.toNat_and, show (1#32).toNat = 1 from rfl, Nat.and_one_is_mod, BitVec.getLsbD, Nat.testBit_zero]
  simp; omega

theorem half_n (r : BitVec 32) (c : Nat) (hc : c < 256) : it 4 ((r ^^^ BitVec.ofNat 32 c) &&& 15#32) ^^^ (r >>> 4) = it 4 (r ^^^ BitVec.ofNat 32 (c % 16)) := by
  rw [it_split 4 (by omega) (r ^^^ BitVec.ofNat 32 (c % 16))]
  have e1 : (r ^^^ BitVec.ofNat 32 c) &&& 15#32 = (r ^^^ BitVec.ofNat 32 (c % 16)) &&& BitVec.ofNat 32 (2 ^ 4 - 1) := by
    apply BitVec.eq_of_getLsbD_eq; intro i hi
    rw [BitVec.getLsbD_and, BitVec.getLsbD_and, mask_bit 4 i (by omega), BitVec.getLsbD_xor, BitVec.getLsbD_xor, BitVec.getLsbD_ofNat, BitVec.getLsbD_ofNat, show (16 : Nat) = 2 ^ 4 from rfl, Nat.testBit_mod_two_pow]
    by_cases h : i < 4 <;> simp [h]
  have e2 : (r ^^^ BitVec.ofNat 32 (c % 16)) >>> 4 = r >>> 4 := by
    rw [BitVec.ushiftRight_xor_distrib]
    have : BitVec.ofNat 32 (c % 16) >>> 4 = 0#32 := by
      apply BitVec.eq_of_toNat_eq
      rw [BitVec.toNat_ushiftRight, BitVec.toNat_ofNat, Nat.shiftRight_eq_div_pow]
      simp; omega
    rw [this, BitVec.xor_zero]
  rw [e1, e2]

theorem byte_n (r : BitVec 32) (c : Nat) (hc : c < 256) : it 4 ((it 4 (r ^^^ BitVec.ofNat 32 (c % 16))) ^^^ BitVec.ofNat 32 (c / 16 % 16)) = G r c 8 := by
  rw [G_it 8 r c (by omega) (by omega), it_add 4 4]
  congr 1
  have h1 : c / 16 % 16 = c / 16 := by omega
  have e : BitVec.ofNat 32 c = BitVec.ofNat 32 (c % 16) ^^^ BitVec.ofNat 32 (c / 16 * 16) := by
    rw [← ofNat_xor]; congr 1
    apply Nat.eq_of_testBit_eq; intro i
    rw [Nat.testBit_xor, show (16 : Nat) = 2 ^ 4 from rfl, Nat.testBit_mod_two_pow, Nat.testBit_mul_two_pow, Nat.testBit_div_two_pow]
    by_cases h : i < 4
    · have h4 : ¬ 4 ≤ i := by omega
      simp [h, h4]
    · have h4 : 4 ≤ i := by omega
      simp [h, h4]
  have hl : it 4 (BitVec.ofNat 32 (c / 16 * 16)) = BitVec.ofNat 32 (c / 16) := by
    rw [it_low 4 _ (fun i hi => by
      rw [BitVec.getLsbD_ofNat, show (16 : Nat) = 2 ^ 4 from rfl, Nat.testBit_mul_two_pow]
      have : ¬ 4 ≤ i := by omega
      simp [this])]
    apply BitVec.eq_of_toNat_eq
    rw [BitVec.toNat_ushiftRight, BitVec.toNat_ofNat, BitVec.toNat_ofNat, Nat.shiftRight_eq_div_pow, Nat.mod_eq_of_lt (by omega), Nat.mod_eq_of_lt (by omega)]
    omega
  rw [h1, e, ← BitVec.xor_assoc, it_xor 4 (r ^^^ BitVec.ofNat 32 (c % 16)), hl]


/-- The register behind bytes; the sum. -/
def crcF (s : BitVec 32) (l : List Int) : BitVec 32 := l.foldl (fun s c => G s c.toNat 8) s
def crcV (l : List Int) : BitVec 32 := ~~~ (crcF (~~~ 0#32) l)
theorem crcF_snoc (s : BitVec 32) (l : List Int) (c : Int) : crcF s (l ++ [c]) = G (crcF s l) c.toNat 8 := by simp [crcF]
theorem crcF_take {s : BitVec 32} {b : List Int} {j : Nat} (h : j < b.length) : crcF s (b.take (j + 1)) = G (crcF s (b.take j)) (at' b (j : Int)).toNat 8 := by
  rw [at_nat _ _ h, List.take_add_one, List.getElem?_eq_getElem h]; exact crcF_snoc _ _ _
theorem n_not (v : BitVec 32) : bits .xor .u32 IntKind.u32.max (nB v) = nB (~~~ v) := by
  rw [show IntKind.u32.max = nB (BitVec.allOnes 32) from by kernel_rfl, n_xor, BitVec.allOnes_xor]
/-- The four bytes of a sum, the lowest one first. -/
def q4 (c : BitVec 32) : List Int := [nB c % 256, nB c / 256 % 256, nB c / 65536 % 256, nB c / 16777216 % 256]
theorem q4_byts (c : BitVec 32) : Byts (q4 c) := by
  intro x hx; simp [q4] at hx; omega
theorem q4_len (c : BitVec 32) : (q4 c).length = 4 := rfl
def sealB (b : List Int) : List Int := b ++ q4 (crcV b)
theorem sealB_len (b : List Int) : (sealB b).length = b.length + 4 := by simp [sealB, q4_len]
theorem sealB_byts {b : List Int} (h : Byts b) : Byts (sealB b) := bytes_app h (q4_byts _)
/-- What is got of bytes. -/
def sealOK (b : List Int) : Bool := decide (4 ≤ b.length ∧ b.drop (b.length - 4) = q4 (crcV (b.take (b.length - 4))))
def sealG (b : List Int) : List Int := if sealOK b = true then b.take (b.length - 4) else []
theorem sealOK_put (b : List Int) : sealOK (sealB b) = true := by
  refine decide_eq_true ?_
  rw [sealB_len, Nat.add_sub_cancel]
  exact ⟨by omega, by unfold sealB; rw [List.drop_left, List.take_left]⟩
theorem sealG_put (b : List Int) : sealG (sealB b) = b := by
  rw [sealG, if_pos (sealOK_put b), sealB_len, Nat.add_sub_cancel]; unfold sealB; rw [List.take_left]
theorem sealG_byts {b : List Int} (h : Byts b) : Byts (sealG b) := by
  unfold sealG; split
  · exact bytes_take h _
  · exact bytes_nil
theorem sealG_len (b : List Int) : (sealG b).length ≤ b.length := by
  unfold sealG; split
  · simp
  · simp
theorem drop4 {l : List Int} (h : 4 ≤ l.length) : l.drop (l.length - 4) = [at' l ((l.length : Int) - 4), at' l ((l.length : Int) - 4 + 1), at' l ((l.length : Int) - 4 + 2), at' l ((l.length : Int) - 4 + 3)] := by
  obtain ⟨m, hm⟩ : ∃ m, l.length = m + 4 := ⟨l.length - 4, by omega⟩
  have e : ∀ j : Nat, (hj : m + j < l.length) → at' l (((l.length : Nat) : Int) - 4 + j) = l[m + j] := by
    intro j hj
    rw [show ((l.length : Nat) : Int) - 4 + j = ((m + j : Nat) : Int) by omega, at_nat _ _ hj]
  rw [show l.length - 4 = m by omega, List.drop_eq_getElem_cons (by omega), List.drop_eq_getElem_cons (by omega), List.drop_eq_getElem_cons (by omega), List.drop_eq_getElem_cons (by omega), List.drop_of_length_le (by omega)]
  have e0 := e 0 (by omega)
  rw [show ((l.length : Nat) : Int) - 4 + (0 : Nat) = (l.length : Int) - 4 by omega] at e0
  have e1 := e 1 (by omega)
  have e2 := e 2 (by omega)
  have e3 := e 3 (by omega)
  simp only [Int.natCast_one, Int.cast_ofNat_Int] at e1 e2 e3
  rw [e0, show ((l.length : Int) - 4 + 1) = ((l.length : Nat) : Int) - 4 + (1 : Nat) by omega, e 1 (by omega), show ((l.length : Int) - 4 + 2) = ((l.length : Nat) : Int) - 4 + (2 : Nat) by omega, e 2 (by omega), show ((l.length : Int) - 4 + 3) = ((l.length : Nat) : Int) - 4 + (3 : Nat) by omega, e 3 (by omega)]
  rfl
end Go.Vm.Crc

/- A logic of values over the model. Part R: a function that defers one call of a closure. -/
set_option linter.unusedVariables false
set_option linter.unusedSimpArgs false
namespace Go.Vm
/-- What a deferred call leaves, and what it sets. -/
def DoesD (P : Program) (f : FuncId) (vs : List V) (pre up : List (Nat × Box)) : Prop :=
  ∀ n X (args : Array Value), R n X → RowRep X vs args.toList → (∀ p ∈ pre, X.bx p.1 = p.2) → (∀ p ∈ up, p.1 < n) →
    CallsD P f args .returning X.w fun e u' w' => u' = .returning ∧ ∃ X' u, e = .returned u ∧ X'.bx = upds X.bx up ∧ R n X' ∧ Ext X X' ∧ X'.w = w'
/-- A function's end with one deferred call of closure f still to run. -/
def EscD (P : Program) (n : Nat) (X0 : Ctx) (N : Nat) (up : List (Nat × Box)) (r : V) (rs : List ResultVar) (a : Act) (w : World) : Prop :=
  ∃ (s : S) (X : Ctx) (f : FuncId) (fn : Func) (us : List Value) (vs : List V) (preD upD : List (Nat × Box)), St ⟨X0, [{ target := .fn (.func f) us.toArray, args := #[] }], fun _ _ => False, none, false⟩ N s X a ∧ X.w = w ∧ RowRep X vs us ∧
    P.funcs[f]? = some fn ∧ (fn.name == "runtime.NumGoroutine") = false ∧ fn.body.isSome = true ∧ DoesD P f vs preD upD ∧ (∀ p ∈ preD, s.bx p.1 = p.2) ∧ (∀ p ∈ upD, p.1 < s.n) ∧ Fin P n X0.bx up r rs ⟨s.t, s.n, upds s.bx upD⟩
theorem does_defer {P : Program} {f : FuncId} {fn : Func} {c : Code} {vs : List V} {pre up : List (Nat × Box)} {r : V} {l : List (Nat × V)} (m : Nat) (hf : P.funcs[f]? = some fn) (hb : fn.body = some c) (hl : Nat.ble vs.length fn.ntmps = true) (hl' : (vs.zipIdx.map fun p => (p.2, p.1)) = l)
    (h : ∀ n X0, (∀ k, n ≤ k → X0.bx k = .dead) → PreOK X0.bx pre → UpLt n up → bdL n vs →
      Runs P ⟨X0, [], EscD P n X0 fn.ntmps up r fn.results.toList, none, false⟩ fn.ntmps c ⟨mk l, n + m, X0.bx⟩ (fun e s => (e = .normal ∨ e = .ret) ∧ Fin P n X0.bx up r fn.results.toList s)) : Does P f vs pre up r := by
  intro n X args hR hargs hpre hup
  refine calls_of_wp_defers hf hb ?_
  have hlen : args.size = vs.length := by have := hargs.length; simpa using this.symm
  have hl := Nat.le_of_ble_eq_true hl
  have hst : St ⟨X, [], EscD P n X fn.ntmps up r fn.results.toList, none, false⟩ fn.ntmps ⟨fun i => vs.getD i .junk, n, X.bx⟩ X { tmps := args ++ Array.replicate (fn.ntmps - args.size) undef, defers := [] } := by
    refine ⟨hR, rfl, fun i => ?_, ?_, .nil rfl, Ext.refl X⟩
    · have := getD_rep vs args.toList (fn.ntmps - args.size) i hargs
      simpa [List.getD_eq_getElem?_getD, Array.getElem?_append, List.getElem?_append, Array.getElem?_replicate, List.getElem?_replicate] using this
    · simp; omega
  have hrun := h n X hR.dead (pre_of hpre) (UpLt.of hup) (RowRep.bd hR _ _ hargs)
  have hrun2 := runs_weak (s := ⟨fun i => vs.getD i .junk, n, X.bx⟩) (t' := mk l) (n' := n + m) (fun i => ?hm) (Nat.le_add_right _ _) hrun
  case hm =>
    subst hl'
    have key : ∀ (vs : List V) (k i : Nat), VLe (vs.getD i .junk) (mk ((vs.zipIdx k).map fun p => (p.2, p.1)) (k + i)) := by
      intro vs
      induction vs with
      | nil => intro k i; simp [mk]; exact VLe.refl _
      | cons v vs ih =>
        intro k i
        simp only [List.zipIdx_cons, List.map_cons, mk]
        cases i with
        | zero => show VLe v (upd _ k v k); rw [upd_eq]; exact VLe.refl _
        | succ i =>
          rw [upd_ne _ _ _ _ (by omega)]
          have := ih (k + 1) i
          rw [show k + (i + 1) = k + 1 + i by omega]
          simpa using this
    have := key vs 0 i
    rw [Nat.zero_add] at this
    exact this
  refine wp_mono (wpIn_wide.1 (hrun2 X _ hst)) ?_
  rintro e a' w' (⟨s', X', ⟨he, hfin⟩, rfl, hs'⟩ | ⟨rfl, s', X', g, gn, us, ws, preD, upD, hs', rfl, hrow, hg, hname, hbody, hD, hpreD, hupD, hfin⟩)
  · obtain ⟨v, hr, hv⟩ := fin_end hR hup rfl hs' hfin
    have hd : a'.defers = [] := hs'.defers.none rfl
    rcases he with rfl | rfl
    · show Leaves P fn a'.tmps _ a'.defers .returning _
      rw [hd]; exact ⟨v, hr, hv⟩
    · show Leaves P fn a'.tmps _ a'.defers .returning _
      rw [hd]; exact ⟨v, hr, hv⟩
  · show Leaves P fn a'.tmps _ a'.defers .returning _
    have hd : a'.defers = [{ target := .fn (.func g) us.toArray, args := #[] }] := hs'.defers.none rfl
    rw [hd]
    refine leaves_cons (f := g) (args := us.toArray) (by simp) ?_ ?_
    · simp only [invoke]
      rw [callFunc_run hg hname hbody]
      simp
    · refine (hD s'.n X' us.toArray hs'.rr (by simpa using hrow) (fun p hp => by rw [hs'.bx]; exact hpreD p hp) hupD).mono ?_
      rintro e u' w' ⟨rfl, X2, u, rfl, hbx2, hR2, he2, rfl⟩
      have hs2 : St ⟨X, [{ target := .fn (.func g) us.toArray, args := #[] }], fun _ _ => False, none, false⟩ fn.ntmps ⟨s'.t, s'.n, upds s'.bx upD⟩ X2 a' :=
        ⟨hR2, by rw [hbx2, hs'.bx], fun i => VRep.mono he2 _ _ (hs'.t i), hs'.N, hs'.defers.mono he2 rfl, hs'.ext.trans he2⟩
      obtain ⟨v, hr, hv⟩ := fin_end hR hup rfl hs2 hfin
      exact ⟨v, hr, hv⟩
where
  pre_of {bx : Nat → Box} : ∀ {pre : List (Nat × Box)}, (∀ p ∈ pre, bx p.1 = p.2) → PreOK bx pre
    | [], h => trivial
    | (k, b) :: l, h => ⟨h (k, b) (List.mem_cons_self ..), pre_of (fun p hp => h p (List.mem_cons_of_mem _ hp))⟩
/-- A deferred closure off its body. -/
def baseF (X : Ctx) : Bas := { base X with mks := false }
theorem doesD_mk {P : Program} {f : FuncId} {fn : Func} {c : Code} {vs : List V} {pre up : List (Nat × Box)} {l : List (Nat × V)} (m : Nat) (hf : P.funcs[f]? = some fn) (hb : fn.body = some c) (hl : Nat.ble vs.length fn.ntmps = true) (hl' : (vs.zipIdx.map fun p => (p.2, p.1)) = l) (hres : fn.results = #[])
    (h : ∀ n B bx, (∀ k, n ≤ k → bx k = .dead) → PreOK bx pre → UpLt n up → bdL n vs → (∀ k cs, bx k = .cells cs → bdL n cs) → (∀ k v e rows, bx k = .gcells v e rows → bdR n rows) →
      Runs P B fn.ntmps c ⟨mk l, n + m, bx⟩ (fun e s => (e = .normal ∨ e = .ret) ∧ Fin P n bx up (.tup []) fn.results.toList s)) : DoesD P f vs pre up := by
  intro n X args hR hargs hpre hup
  have hbx : ∀ k cs, X.bx k = .cells cs → bdL n cs := fun k cs hk => by obtain ⟨_, us, _, _, h3, _⟩ := hR.box k cs hk; exact RowRep.bd hR _ _ h3
  have hgx : ∀ k v e rows, X.bx k = .gcells v e rows → bdR n rows := fun k v e rows hk => by
    obtain ⟨g1, g2⟩ := hR.gbox k v e rows hk
    rcases g2 with rfl | ⟨_, us, _, _, _, h3, _⟩
    · simp [bdR]
    · exact bdR_flat (RowRep.bd hR _ _ h3)
  have hlen : args.size = vs.length := by have := hargs.length; simpa using this.symm
  have hl := Nat.le_of_ble_eq_true hl
  have hst : St (baseF X) fn.ntmps ⟨fun i => vs.getD i .junk, n, X.bx⟩ X { tmps := args ++ Array.replicate (fn.ntmps - args.size) undef, defers := [] } := by
    refine ⟨hR, rfl, fun i => ?_, ?_, .nil rfl, Ext.refl X⟩
    · have := getD_rep vs args.toList (fn.ntmps - args.size) i hargs
      simpa [List.getD_eq_getElem?_getD, Array.getElem?_append, List.getElem?_append, Array.getElem?_replicate, List.getElem?_replicate] using this
    · simp; omega
  have hrun := h n (baseF X) X.bx hR.dead (does_defer.pre_of hpre) (UpLt.of hup) (RowRep.bd hR _ _ hargs) hbx hgx
  have hrun2 := runs_weak (s := ⟨fun i => vs.getD i .junk, n, X.bx⟩) (t' := mk l) (n' := n + m) (fun i => ?hm) (Nat.le_add_right _ _) hrun
  case hm =>
    subst hl'
    have key : ∀ (vs : List V) (k i : Nat), VLe (vs.getD i .junk) (mk ((vs.zipIdx k).map fun p => (p.2, p.1)) (k + i)) := by
      intro vs
      induction vs with
      | nil => intro k i; simp [mk]; exact VLe.refl _
      | cons v vs ih =>
        intro k i
        simp only [List.zipIdx_cons, List.map_cons, mk]
        cases i with
        | zero => show VLe v (upd _ k v k); rw [upd_eq]; exact VLe.refl _
        | succ i =>
          rw [upd_ne _ _ _ _ (by omega)]
          have := ih (k + 1) i
          rw [show k + (i + 1) = k + 1 + i by omega]
          simpa using this
    have := key vs 0 i
    rw [Nat.zero_add] at this
    exact this
  refine (callsD_of_wp hf hb (R := fun e w' => ∃ X' u, e = .returned u ∧ X'.bx = upds X.bx up ∧ R n X' ∧ Ext X X' ∧ X'.w = w') ?_).mono (fun e u' w' h => h)
  refine wp_mono (wpIn_wide.1 (hrun2 X _ hst)) ?_
  rintro e a' w' (⟨s', X', ⟨he, hfin⟩, rfl, hs'⟩ | ⟨_, hE⟩)
  · obtain ⟨v, hr, X3, u', h1, h2, h3, h4, h5, h6⟩ := fin_end hR hup rfl hs' hfin
    rcases he with rfl | rfl
    · exact ⟨hs'.defers.none rfl, v, hr, X3, v, rfl, h3, h4, h5, h6⟩
    · exact ⟨hs'.defers.none rfl, v, hr, X3, v, rfl, h3, h4, h5, h6⟩
  · exact hE.elim
/-- The region that defers. -/
theorem runs_defer {P : Program} {n N m : Nat} {X0 : Ctx} {up : List (Nat × Box)} {r : V} {rs : List ResultVar} {id : Nat} {o0 o1 : Oper} {y : Code} {l : List (Nat × V)} {bx : Nat → Box} {Q : Exit → S → Prop} {f : FuncId} {fn : Func} {xs : Array Operand} {vs : List V} {d0 : Tmp}
    (ho : o0.op = .makeFunc (.func f) #[] xs) (hd0 : o0.dst = some d0) (hN : Nat.blt d0 N = true) (hg0 : o0.guard = none) (ho1 : o1.op = .defer { callee := .value (.tmp d0), args := #[], argTypes := #[] }) (hd1 : o1.dst = none) (hg1 : o1.guard = none)
    (hvs : lks l xs.toList = some vs) (hf : P.funcs[f]? = some fn) (hname : (fn.name == "runtime.NumGoroutine") = false) (hb : fn.body.isSome = true)
    (h : ∀ B', Runs P B' N y ⟨mk ((d0, .fn f vs) :: l), m, bx⟩ (fun e s => e = .ret ∧ ∃ preD upD, DoesD P f vs preD upD ∧ (∀ p ∈ preD, s.bx p.1 = p.2) ∧ (∀ p ∈ upD, p.1 < s.n) ∧ Fin P n X0.bx up r rs ⟨s.t, s.n, upds s.bx upD⟩)) :
    Runs P ⟨X0, [], EscD P n X0 N up r rs, none, false⟩ N (.seq (.region id #[o0, o1] false) y) ⟨mk l, m, bx⟩ Q := by
  intro X a hs
  refine wpIn_wide.2 ?_
  refine wp_seq ?_
  refine wp_region_list ?_
  refine wpList_plain hg0 fun K hK => ?_
  have hargs : RowRep X vs (xs.toList.map a.eval) := rowRep_map _ _ (evs_mk hvs) (fun x _ => ev_rep hs.t x)
  have hrun0 : (execOp a.eval o0).run P X.w = .ok (.value (.func (.func f) #[] (xs.map a.eval))) X.w := by
    rw [exec_makeFunc ho, Array.map_empty]; rfl
  unfold Oper.wp
  rw [hrun0]
  refine hK _ _ ?_
  rw [hd0]
  refine wpList_plain hg1 fun K1 hK1 => ?_
  have hev : (a.put (some d0) (.func (.func f) #[] (xs.map a.eval))).eval (.tmp d0) = .func (.func f) #[] (xs.map a.eval) := by
    have hlt : d0 < a.tmps.size := by rw [hs.N]; exact Nat.blt_eq ▸ (by simpa using hN)
    simp [Act.put, Act.eval, hlt]
  have hrun1 : (execOp (a.put (some d0) (.func (.func f) #[] (xs.map a.eval))).eval o1).run P X.w = .ok (.defer { target := .fn (.func f) (xs.map a.eval), args := #[] }) X.w := by
    unfold execOp
    rw [ho1]
    have e1 : resolve (a.put (some d0) (.func (.func f) #[] (xs.map a.eval))).eval { callee := .value (.tmp d0), args := #[], argTypes := #[] } o1.type = Deferred.ofValue ((a.put (some d0) (.func (.func f) #[] (xs.map a.eval))).eval (.tmp d0)) (Array.map (a.put (some d0) (.func (.func f) #[] (xs.map a.eval))).eval #[]) := rfl
    simp only [e1, hev, Array.map_empty, Sem.run_bind]
    rfl
  unfold Oper.wp
  rw [hrun1, Oper.upon_defer]
  refine hK1 _ _ ?_
  refine wpList_nil ?_
  rw [hd1]
  have hus : xs.map a.eval = (xs.toList.map a.eval).toArray := by apply Array.toList_inj.1; rw [Array.toList_map]
  have hst' : St ⟨X, [{ target := .fn (.func f) (xs.toList.map a.eval).toArray, args := #[] }], fun _ _ => False, none, false⟩ N ⟨mk ((d0, .fn f vs) :: l), m, bx⟩ X { (a.put (some d0) (.func (.func f) #[] (xs.map a.eval))) with defers := { target := .fn (.func f) (xs.map a.eval), args := #[] } :: (a.put (some d0) (.func (.func f) #[] (xs.map a.eval))).defers } := by
    have h1 := hs.put (X' := X) (u := .func (.func f) #[] (xs.map a.eval)) (v := .fn f vs) (dst := some d0) (up := []) hN hs.rr rfl (Ext.refl X) (by simp only [VRep]; exact ⟨_, by rw [hus], hargs⟩)
    refine ⟨h1.rr, h1.bx, h1.t, h1.N, ?_, Ext.refl X⟩
    have h2 : (a.put (some d0) (.func (.func f) #[] (xs.map a.eval))).defers = [] := h1.defers.none rfl
    refine .nil ?_
    show _ :: (a.put (some d0) (.func (.func f) #[] (xs.map a.eval))).defers = _
    rw [h2, hus]
  have h3 := h ⟨X, [{ target := .fn (.func f) (xs.toList.map a.eval).toArray, args := #[] }], fun _ _ => False, none, false⟩ X _ hst'
  refine wp_mono (wpIn_wide.1 h3) ?_
  rintro e a' w' (⟨s', X', ⟨rfl, preD, upD, q1, q2, q3, q4⟩, rfl, hs'⟩ | ⟨_, hE⟩)
  · exact .inr ⟨rfl, s', X', f, fn, xs.toList.map a.eval, vs, preD, upD, ⟨hs'.rr, hs'.bx, hs'.t, hs'.N, .nil (hs'.defers.none rfl), hs.ext.trans hs'.ext⟩, rfl, RowRep.mono hs'.ext _ _ hargs, hf, hname, hb, q1, q2, q3, q4⟩
  · exact hE.elim
end Go.Vm

/- A logic of values over the model. Part S: ranges over functions: what yield does, what an iterator does, the loop. -/
set_option linter.unusedVariables false
set_option linter.unusedSimpArgs false
namespace Go.Vm
/-! ### Objects as boxes -/
section
variable {n : Nat} {X X' : Ctx} {o : Obj}
end
mutual
theorem V.bd_mono {n m : Nat} (h : n ≤ m) : ∀ v : V, v.bd n → v.bd m
  | .junk, _ => by simp [V.bd]
  | .sc v, _ => by simp [V.bd]
  | .ref k o, hv => by simp only [V.bd] at hv ⊢; omega
  | .ro row, hv => by simp only [V.bd] at hv ⊢; exact bdL_mono h row hv
  | .sl e xs, hv => by simp only [V.bd] at hv ⊢; exact bdR_mono h xs hv
  | .fl e xs, hv => by simp only [V.bd] at hv ⊢; exact bdR_mono h xs hv
  | .own e xs k, hv => by simp only [V.bd] at hv ⊢; exact ⟨bdR_mono h xs hv.1, by omega⟩
  | .msl k o len cap e, hv => by simp only [V.bd] at hv ⊢; omega
  | .gsl k v q len e, hv => by simp only [V.bd] at hv ⊢; omega
  | .gref k v o, hv => by simp only [V.bd] at hv ⊢; omega
  | .fn f cap, hv => by simp only [V.bd] at hv ⊢; exact bdL_mono h cap hv
  | .agg cs, hv => by simp only [V.bd] at hv ⊢; exact bdL_mono h cs hv
  | .tup vs, hv => by simp only [V.bd] at hv ⊢; exact bdL_mono h vs hv
theorem bdL_mono {n m : Nat} (h : n ≤ m) : ∀ vs : List V, bdL n vs → bdL m vs
  | [], _ => trivial
  | v :: vs, hv => by simp only [bdL] at hv ⊢; exact ⟨V.bd_mono h v hv.1, bdL_mono h vs hv.2⟩
theorem bdR_mono {n m : Nat} (h : n ≤ m) : ∀ xs : List (List V), bdR n xs → bdR m xs
  | [], _ => trivial
  | r :: rs, hv => by simp only [bdR] at hv ⊢; exact ⟨bdL_mono h r hv.1, bdR_mono h rs hv.2⟩
end
/-- What an entry holds speaks of entries below n alone. -/
def BdB (n : Nat) (b : Box) : Prop := (∀ cs, b = .cells cs → bdL n cs) ∧ ∀ v e rows, b = .gcells v e rows → bdR n rows
theorem BdB.mono {n m : Nat} {b : Box} (h : BdB n b) (hm : n ≤ m) : BdB m b := ⟨fun cs e => bdL_mono hm _ (h.1 cs e), fun v e rows q => bdR_mono hm _ (h.2 v e rows q)⟩
/-! ### Contracts -/
/-- Entries of which D is so hold what f says. -/
def ov (D : Nat → Bool) (f g : Nat → Box) : Nat → Box := fun k => match D k with
  | true => f k
  | false => g k
/-- A call of loop l's yield at a round: from any state behind Xb in which the caller's entries are as f says, to one in which they are as g says. -/
def DoesY (P : Program) (Xb : Ctx) (l n0 : Nat) (vs : List V) (D E : Nat → Bool) (f g : Nat → Box) (b : Bool) : Prop :=
  ∀ n X (args : List Value), n0 ≤ n → R n X → Ext Xb X → RowRep X vs args → (∀ k, D k = true → k < n ∧ X.bx k = f k) → (∀ k, k < n0 → D k = false → E k = false → X.bx k = Xb.bx k) →
    ∃ fn tmps assign body, (Instr.yield l args.toArray).run P X.w = .ok (.round l fn tmps assign body) X.w ∧
      RoundIn Fence.wide 0 P l fn tmps assign body X.w fun e w' => e = .returned (.bool b) ∧ ∃ X', X'.w = w' ∧ X'.bx = ov D g X.bx ∧ R n X' ∧ Ext X X'
/-- What an iterator does: it hands over xs, as far as it is asked; its own entries (E) go from e0 to what eF says (behind so many, stopped or not). -/
def DoesI (P : Program) (f : FuncId) (caps : List V) (xs : List (List V)) (E : Nat → Bool) (e0 : Nat → Box) (eF : Nat → Bool → Nat → Box) : Prop :=
  ∀ (Xb : Ctx) (l n0 : Nat) (D : Nat → Bool) (σ : Nat → Nat → Box) (m : Nat) (brk : Bool), m ≤ xs.length → (brk = true → 1 ≤ m) → (brk = false → m = xs.length) → (∀ k, D k = true → E k = false) →
    (∀ i v, i < m → xs[i]? = some v → DoesY P Xb l n0 v D E (σ i) (σ (i + 1)) (!(brk && Nat.beq (i + 1) m))) →
    ∀ n X (args : List Value), n0 ≤ n → R n X → Ext Xb X → RowRep X caps args → (∀ k, D k = true → k < n ∧ X.bx k = σ 0 k) → (∀ k, E k = true → k < n ∧ X.bx k = e0 k) → (∀ k, k < n0 → D k = false → E k = false → X.bx k = Xb.bx k) →
      (∀ k, D k = true → BdB n (σ m k)) → (∀ k, E k = true → BdB n (eF m brk k)) →
      Calls P f (Value.func (.yield l) #[] #[] :: args).toArray X.w fun en w' => en = .returned (.tuple #[]) ∧ ∃ X', X'.w = w' ∧ X'.bx = ov D (σ m) (ov E (eF m brk) X.bx) ∧ R n X' ∧ Ext X X'
theorem DoesI.le {P : Program} {f : FuncId} {caps caps' : List V} {xs : List (List V)} {E : Nat → Bool} {e0 : Nat → Box} {eF : Nat → Bool → Nat → Box} (h : DoesI P f caps' xs E e0 eF) (hl : VLes caps caps') : DoesI P f caps xs E e0 eF :=
  fun Xb l n0 D σ m brk h1 h2 h3 h4 h5 n X args k1 k2 k3 k4 k5 k6 k7 k8 k9 => h Xb l n0 D σ m brk h1 h2 h3 h4 h5 n X args k1 k2 k3 (hl.row k4) k5 k6 k7 k8 k9
end Go.Vm

/- A logic of values over the model. Part U: the call of yield; the loop over an iterator. -/
set_option linter.unusedVariables false
set_option linter.unusedSimpArgs false
namespace Go.Vm
section
variable {P : Program} {B : Bas} {N n : Nat} {l : List (Nat × V)} {bx : Nat → Box} {Q : Exit → S → Prop} {g : Operand} {ps : Array Tmp} {assign body : Code} {f : FuncId} {caps : List V} {xs : List (List V)} {E : Nat → Bool} {e0 : Nat → Box} {eF : Nat → Bool → Nat → Box} {fnn : Func} {Dc : Nat → Bool} {σ : Nat → Nat → Box} {m : Nat} {brk : Bool} {ex : Exit} {gv : V} {kl : Nat}
end
end Go.Vm

/- A logic of values over the model. Part V: ranges told by lists of entries. -/
set_option linter.unusedVariables false
set_option linter.unusedSimpArgs false
namespace Go.Vm
def AllP {α : Type} (p : α → Prop) : List α → Prop
  | [] => True
  | a :: l => p a ∧ AllP p l
theorem AllP.of {α : Type} {p : α → Prop} : ∀ {l : List α}, (∀ a ∈ l, p a) → AllP p l
  | [], _ => trivial
  | b :: l, h => ⟨h b (List.mem_cons_self ..), AllP.of fun a ha => h a (List.mem_cons_of_mem _ ha)⟩
def lkB : List (Nat × Box) → Nat → Box
  | [], _ => .dead
  | (k, b) :: l, j => if j = k then b else lkB l j
def inK : List Nat → Nat → Bool
  | [], _ => false
  | k :: l, j => Nat.beq j k || inK l j
def eL (El : List (Nat × Box × (Nat → Bool → Box))) : List (Nat × Box) := El.map fun p => (p.1, p.2.1)
def eM (El : List (Nat × Box × (Nat → Bool → Box))) (m : Nat) (b : Bool) : List (Nat × Box) := El.map fun p => (p.1, p.2.2 m b)
/-- An iterator's contract, its own entries told by a list. -/
def DoesL (P : Program) (f : FuncId) (caps : List V) (xs : List (List V)) (El : List (Nat × Box × (Nat → Bool → Box))) : Prop :=
  DoesI P f caps xs (inK (El.map (·.1))) (lkB (eL El)) (fun m b => lkB (eM El m b))
theorem DoesL.le {P : Program} {f : FuncId} {caps caps' : List V} {xs : List (List V)} {El : List (Nat × Box × (Nat → Bool → Box))} (h : DoesL P f caps' xs El) (hl : VLes caps caps') : DoesL P f caps xs El := DoesI.le h hl
theorem AllP.map {α β : Type} {p : β → Prop} {f : α → β} : ∀ {l : List α}, AllP (fun a => p (f a)) l → AllP p (l.map f)
  | [], _ => trivial
  | _ :: _, h => ⟨h.1, AllP.map h.2⟩
theorem AllP.imp {α : Type} {p q : α → Prop} (hi : ∀ a, p a → q a) : ∀ {l : List α}, AllP p l → AllP q l
  | [], _ => trivial
  | _ :: _, h => ⟨hi _ h.1, AllP.imp hi h.2⟩
section
variable {P : Program} {B : Bas} {N n : Nat} {l : List (Nat × V)} {bx : Nat → Box} {Q : Exit → S → Prop} {g : Operand} {ps : Array Tmp} {assign body : Code} {f : FuncId} {caps : List V} {xs : List (List V)} {fnn : Func} {Dl : List (Nat × (Nat → Box))} {El : List (Nat × Box × (Nat → Bool → Box))} {m : Nat} {brk : Bool} {ex : Exit} {gv : V} {kl : Nat}
end
/-! ### Inside an iterator -/
theorem beq_m {m j : Nat} {brk : Bool} (h : (!(brk && Nat.beq (j + 1) m)) = true) (h1 : j < m) : j + 1 ≤ m ∧ (brk = true → j + 1 < m) := by
  refine ⟨h1, fun hb => ?_⟩
  subst hb
  cases hq : Nat.beq (j + 1) m with
  | true => rw [hq] at h; cases h
  | false =>
    have : j + 1 ≠ m := fun e => by rw [e, Nat.beq_refl] at hq; cases hq
    omega
/-- That so many elements were handed over, and that none is asked for in vain. -/
def OkJ (brk : Bool) (m j : Nat) : Prop := j ≤ m ∧ (brk = true → j < m)
theorem OkJ.zero {brk : Bool} {m : Nat} (h : brk = true → 1 ≤ m) : OkJ brk m 0 := ⟨Nat.zero_le _, fun hb => h hb⟩
theorem OkJ.next {brk : Bool} {m j : Nat} (h : (!(brk && Nat.beq (j + 1) m)) = true) (h1 : j < m) : OkJ brk m (j + 1) := beq_m h h1
section
variable {P : Program} {o : Oper} {t : Nat → V}
end
section
variable {P : Program} {B : Bas} {N n : Nat} {bx : Nat → Box} {Q : Exit → S → Prop} {ops : Array Oper} {L : List Oper} {l : List (Nat × V)} {o : Oper}
end
section
variable {P : Program} {B : Bas} {N n : Nat} {bx : Nat → Box} {Q : Exit → S → Prop} {ops : Array Oper} {L : List Oper} {l : List (Nat × V)}
end
end Go.Vm

/- A logic of values over the model. Part W: clear. -/
set_option linter.unusedVariables false
set_option linter.unusedSimpArgs false
namespace Go.Vm
section
variable {P : Program} {o : Oper} {t : Nat → V}
end
end Go.Vm

/- A logic of values over the model. Part X: a constant text as bytes (a literal's row, and its conversion to its own type, in one). -/
set_option linter.unusedVariables false
set_option linter.unusedSimpArgs false
namespace Go.Vm
section
variable {P : Program} {B : Bas} {N : Nat} {Q : Exit → S → Prop} {l : List (Nat × V)} {n : Nat} {bx : Nat → Box} {ops : Array Oper} {L : List Oper} {o o2 : Oper}
end
end Go.Vm

/- A logic of values over the model. Part Y: families of boxes. -/
set_option linter.unusedVariables false
set_option linter.unusedSimpArgs false
namespace Go.Vm
section
variable {kb : Nat → Nat} {f : Nat → Box}
end
section
variable {P : Program} {B : Bas} {N : Nat} {Q : Exit → S → Prop} {ops : Array Oper} {L : List Oper} {o : Oper} {l : List (Nat × V)} {n : Nat} {bx : Nat → Box}
theorem UpLt.all {n : Nat} : ∀ {l : List (Nat × Box)}, UpLt n l → ∀ p ∈ l, p.1 < n
  | (k, b) :: l, h, p, hp => by
    rcases List.mem_cons.1 hp with rfl | hp
    · exact h.1
    · exact UpLt.all h.2 p hp
end
section
variable {P : Program} {o : Oper} {t : Nat → V}
end
end Go.Vm

/- Facts about the types of the program. -/
namespace Go.Proofs.Ytdmkhpnjjpeeaaa.F
open Go.Vm
theorem sz3 : (Try.prog.info? 3).map (·.size) = some 1 := by kernel_rfl
theorem one3 : OneT Try.prog 3 := ⟨⟨_, Try.underlying3, rfl⟩, sz3⟩
theorem sz4 : (Try.prog.info? 4).map (·.size) = some 1 := by kernel_rfl
theorem one4 : OneT Try.prog 4 := ⟨⟨_, Try.underlying4, rfl⟩, sz4⟩
theorem sz5 : (Try.prog.info? 5).map (·.size) = some 1 := by kernel_rfl
theorem one5 : OneT Try.prog 5 := ⟨⟨_, Try.underlying5, rfl⟩, sz5⟩
theorem zero5 : (Try.prog.info? 5).bind (·.zero) = some (.int .u8 0) := by kernel_rfl
theorem el5 : ElemT Try.prog 5 1 := elemT_of sz5 zero5 (by kernel_rfl) (by kernel_rfl)
theorem sz9 : (Try.prog.info? 9).map (·.size) = some 1 := by kernel_rfl
theorem one9 : OneT Try.prog 9 := ⟨⟨_, Try.underlying9, rfl⟩, sz9⟩
theorem sz22 : (Try.prog.info? 22).map (·.size) = some 1 := by kernel_rfl
theorem one22 : OneT Try.prog 22 := ⟨⟨_, Try.underlying22, rfl⟩, sz22⟩
theorem sz24 : (Try.prog.info? 24).map (·.size) = some 1 := by kernel_rfl
theorem one24 : OneT Try.prog 24 := ⟨⟨_, Try.underlying24, rfl⟩, sz24⟩
theorem sz27 : (Try.prog.info? 27).map (·.size) = some 1 := by kernel_rfl
theorem one27 : OneT Try.prog 27 := ⟨⟨_, Try.underlying27, rfl⟩, sz27⟩
theorem sz33 : (Try.prog.info? 33).map (·.size) = some 1 := by kernel_rfl
theorem one33 : OneT Try.prog 33 := ⟨⟨_, Try.underlying33, rfl⟩, sz33⟩
theorem zero33 : (Try.prog.info? 33).bind (·.zero) = some (.int .u64 0) := by kernel_rfl
theorem el33 : ElemT Try.prog 33 1 := elemT_of sz33 zero33 (by kernel_rfl) (by kernel_rfl)
theorem sz34 : (Try.prog.info? 34).map (·.size) = some 1 := by kernel_rfl
theorem one34 : OneT Try.prog 34 := ⟨⟨_, Try.underlying34, rfl⟩, sz34⟩
theorem sz36 : (Try.prog.info? 36).map (·.size) = some 6 := by kernel_rfl
theorem agg36 : AggT Try.prog 36 6 := ⟨⟨_, Try.underlying36, rfl⟩, sz36⟩
theorem zero36 : (Try.prog.info? 36).bind (·.zero) = some (.agg #[.int .u64 0, .int .u64 0, .int .u32 0, .int .u32 0, .string ByteArray.empty, .bool false]) := by kernel_rfl
theorem sz37 : (Try.prog.info? 37).map (·.size) = some 1 := by kernel_rfl
theorem one37 : OneT Try.prog 37 := ⟨⟨_, Try.underlying37, rfl⟩, sz37⟩
theorem sz38 : (Try.prog.info? 38).map (·.size) = some 1 := by kernel_rfl
theorem one38 : OneT Try.prog 38 := ⟨⟨_, Try.underlying38, rfl⟩, sz38⟩
theorem sz40 : (Try.prog.info? 40).map (·.size) = some 13 := by kernel_rfl
theorem agg40 : AggT Try.prog 40 13 := ⟨⟨_, Try.underlying40, rfl⟩, sz40⟩
theorem zero40 : (Try.prog.info? 40).bind (·.zero) = some (.agg #[.int .u64 0, .int .i64 0, .int .u64 0, .int .u64 0, .int .u64 0, .int .u64 0, .int .u64 0, .int .u32 0, .int .u32 0, .string ByteArray.empty, .bool false, .slice none 0 0, .slice none 0 0]) := by kernel_rfl
theorem el40 : ElemT Try.prog 40 13 := elemT_of sz40 zero40 (by kernel_rfl) (by kernel_rfl)
theorem sz41 : (Try.prog.info? 41).map (·.size) = some 1 := by kernel_rfl
theorem one41 : OneT Try.prog 41 := ⟨⟨_, Try.underlying41, rfl⟩, sz41⟩
theorem zero41 : (Try.prog.info? 41).bind (·.zero) = some (.int .i64 0) := by kernel_rfl
theorem sz47 : (Try.prog.info? 47).map (·.size) = some 64 := by kernel_rfl
theorem agg47 : AggT Try.prog 47 64 := ⟨⟨_, Try.underlying47, rfl⟩, sz47⟩
theorem zero47 : (Try.prog.info? 47).bind (·.zero) = some (.agg (List.replicate 64 (.int .u8 0)).toArray) := by kernel_rfl
theorem el47 : ElemT Try.prog 47 64 := elemT_of sz47 zero47 (by kernel_rfl) (by kernel_rfl)
theorem sz53 : (Try.prog.info? 53).map (·.size) = some 1 := by kernel_rfl
theorem one53 : OneT Try.prog 53 := ⟨⟨_, Try.underlying53, rfl⟩, sz53⟩
theorem sz84 : (Try.prog.info? 84).map (·.size) = some 224 := by kernel_rfl
theorem agg84 : AggT Try.prog 84 224 := ⟨⟨_, Try.underlying84, rfl⟩, sz84⟩
theorem sz86 : (Try.prog.info? 86).map (·.size) = some 225 := by kernel_rfl
theorem agg86 : AggT Try.prog 86 225 := ⟨⟨_, Try.underlying86, rfl⟩, sz86⟩
theorem zero86 : (Try.prog.info? 86).bind (·.zero) = some (.agg (((.int .i64 0) :: List.replicate 224 (.int .u8 0))).toArray) := by kernel_rfl
theorem el86 : ElemT Try.prog 86 225 := elemT_of sz86 zero86 (by kernel_rfl) (by kernel_rfl)
theorem zero94 : (Try.prog.info? 94).bind (·.zero) = some (.agg #[.slice none 0 0, .int .i64 0, .int .i64 0, .slice none 0 0, .bool false]) := by kernel_rfl
theorem zero96 : (Try.prog.info? 96).bind (·.zero) = some (.agg #[.pointer none, .int .i64 0, .int .i64 0, .int .i64 0, .slice none 0 0, .slice none 0 0]) := by kernel_rfl
theorem zero116 : (Try.prog.info? 116).bind (·.zero) = some (.agg #[.int .u64 0, .int .u64 0, .int .u64 0, .int .u64 0]) := by kernel_rfl
theorem zero119 : (Try.prog.info? 119).bind (·.zero) = some (.agg #[.slice none 0 0, .bool false]) := by kernel_rfl
theorem sz125 : (Try.prog.info? 125).map (·.size) = some 16 := by kernel_rfl
theorem agg125 : AggT Try.prog 125 16 := ⟨⟨_, Try.underlying125, rfl⟩, sz125⟩
theorem zero125 : (Try.prog.info? 125).bind (·.zero) = some (.agg #[.int .u32 0, .int .u32 0, .int .u32 0, .int .u32 0, .int .u32 0, .int .u32 0, .int .u32 0, .int .u32 0, .int .u32 0, .int .u32 0, .int .u32 0, .int .u32 0, .int .u32 0, .int .u32 0, .int .u32 0, .int .u32 0]) := by kernel_rfl
end Go.Proofs.Ytdmkhpnjjpeeaaa.F

