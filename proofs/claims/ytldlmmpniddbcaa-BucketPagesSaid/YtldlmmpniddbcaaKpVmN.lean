/- A logic of values over the model. Part N: texts, Byts, zeros appended. -/
import Derived.Test.YtldlmmpniddbcaaKpVmM
import Derived.WideShapes
set_option linter.unusedVariables false
set_option linter.unusedSimpArgs false
namespace Go.Vm
/-! ### Bytes -/
def bV (x : Int) : V := .sc (.int .u8 x)
def bytesV (xs : List Int) : List (List V) := xs.map fun x => [bV x]
def Byts (b : List Int) : Prop := ∀ x ∈ b, 0 ≤ x ∧ x < 256
/-- A text's Byts; the text of bytes. -/
def sB (s : ByteArray) : List Int := s.data.toList.map fun b => (b.toNat : Int)
def bS (xs : List Int) : ByteArray := ⟨(xs.map fun x => UInt8.ofNat x.toNat).toArray⟩
theorem sB_len (s : ByteArray) : (sB s).length = s.size := by unfold sB; rw [List.length_map, Array.length_toList]; rfl
theorem sB_bytes (s : ByteArray) : Byts (sB s) := by
  intro x hx
  obtain ⟨b, _, rfl⟩ := List.mem_map.1 hx
  have := b.toNat_lt
  omega
theorem bS_sB (s : ByteArray) : bS (sB s) = s := by
  apply Go.WideShapes.bytes_inj
  simp [bS, sB, Function.comp_def]
theorem bytesV_app (a b : List Int) : bytesV a ++ bytesV b = bytesV (a ++ b) := by simp [bytesV]
theorem bytesV_len (a : List Int) : (bytesV a).length = a.length := by simp [bytesV]
theorem bytesV_flat (xs : List Int) : (bytesV xs).flatten = xs.map bV := by
  unfold bytesV
  induction xs with
  | nil => rfl
  | cons x xs ih => rw [List.map_cons, List.flatten_cons, ih]; rfl
theorem bytesV_row (xs : List Int) : ∀ r ∈ bytesV xs, r.length = 1 := by
  intro r hr; obtain ⟨x, _, rfl⟩ := List.mem_map.1 hr; rfl
section
variable {P : Program} {o : Oper} {t : Nat → V} {pre up : List (Nat × Box)} {val : V} {l : List (Nat × V)}
theorem rowRep_bytes {X : Ctx} (xs : List Int) : RowRep X (xs.map bV) (xs.map fun x => Value.int .u8 x) := by
  induction xs with
  | nil => simp [RowRep]
  | cons x xs ih => simp only [List.map_cons, RowRep]; exact ⟨_, _, rfl, by simp [bV, VRep], ih⟩
theorem one_bytes (xs : List Int) : ∀ u ∈ xs.map (fun x => Value.int .u8 x), oneV u = true := by
  intro u hu; obtain ⟨x, _, rfl⟩ := List.mem_map.1 hu; rfl
theorem gives_str (s : ByteArray) : Gives (.sc (.string s)) 1 (bytesV (sB s)) [] := by
  intro P n X u hR hv _
  simp only [VRep] at hv
  subst hv
  have hl : (bytesV (sB s)).length = s.size := by rw [bytesV_len, sB_len]
  refine ⟨fun w => by rw [hl]; rfl, bytesV_row _, (sB s).map fun x => Value.int .u8 x, by rw [bytesV_flat]; exact rowRep_bytes _, by rw [List.length_map, sB_len, hl]; omega, one_bytes _, fun d j hj => ?_⟩
  rw [hl] at hj
  have e : ((s.extract 0 j).data.map fun b => Value.int .u8 b.toNat) = (((sB s).map fun x => Value.int .u8 x).take (j * 1)).toArray := by
    apply Array.toList_inj.1
    rw [Nat.mul_one, ← List.map_take]
    simp only [sB, ByteArray.data_extract, Array.toList_map, Array.toList_extract, ← List.map_take, List.map_map]
    simp [List.extract, Function.comp_def]
  show (Builtin.firstCells 1 j (.string s)).run P _ = _
  simp only [Builtin.firstCells, Sem.run_pure, e]
/-! ### A text of Byts; Byts of a text -/
theorem run_b2s {w : World} {a : Option Addr} {len c : Nat} {xs : List Int} (hl : xs.length = len) (h : len = 0 ∨ ∃ ad, a = some ad ∧ (loadCells ad len).run P w = .ok (xs.map fun x => Value.int .u8 x).toArray w) : (Conv.bytesToString (.slice a len c)).run P w = .ok (.string (bS xs)) w := by
  have loop : ∀ (ys : List Int) (s : ByteArray), (forIn (m := Sem) (ys.map fun x => Value.int .u8 x) s fun c s => match c with
      | .int .u8 n => pure (.yield (s.push (UInt8.ofNat n.toNat)))
      | _ => do
        stuck "bytesToString: byte expected"
        pure (.yield s)).run P w = .ok ⟨s.data ++ (bS ys).data⟩ w := by
    intro ys
    induction ys with
    | nil => intro s; simp [bS]
    | cons y ys ih =>
      intro s
      simp only [List.map_cons, List.forIn_cons, Sem.run_bind, Sem.run_pure, Result.andThen_ok]
      rw [ih]
      congr 2
      simp [bS, ByteArray.push, ← Array.append_singleton]
  cases a with
  | none =>
    rcases h with h | ⟨ad, h, _⟩
    · subst h
      have : xs = [] := List.length_eq_zero_iff.1 hl
      subst this
      rfl
    · cases h
  | some ad =>
    have hld : (loadCells ad len).run P w = .ok (xs.map fun x => Value.int .u8 x).toArray w := by
      rcases h with h | ⟨ad', h, h2⟩
      · subst h
        have : xs = [] := List.length_eq_zero_iff.1 hl
        subst this
        simp [loadCells, loadCellsFrom]
      · cases h; exact h2
    have := loop xs ByteArray.empty
    simp only [Conv.bytesToString, Sem.run_bind, hld, Result.andThen_ok, Array.forIn_toList, List.forIn_toArray]
    erw [this]
    show Result.ok (Value.string ⟨#[] ++ (bS xs).data⟩) w = _
    rw [Array.empty_append]
theorem step_b2s {ty ty2 el : TypeId} {x : Operand} {v : V} {xs : List Int} (ho : o.op = .convert ty ty2 x) (hx : ev t x = v) (hg : Gives v 1 (bytesV xs) pre) (hb : Byts xs) (hu : P.underlying ty = some (.slice el)) (hu2 : P.underlying ty2 = some .string) (he : P.underlying el = some (.int .u8)) (hsl : ∀ X u, VRep X v u → ∃ a c, u = .slice a xs.length c) : StepOK P o t pre [] (.sc (.string (bS xs))) := by
  refine step_value fun n X ρ hR hop hpre => ?_
  have h1 := hop x (by simp [ho, Op.operands])
  rw [hx] at h1
  obtain ⟨l1, l2, us, l3, l4, l5, l6⟩ := hg P n X _ hR h1 hpre
  obtain ⟨a, c, hs⟩ := hsl X _ h1
  refine ⟨.string (bS xs), exec_run (exec_convert ho) ?_, by simp [VRep]⟩
  have hus : us = xs.map fun x => Value.int .u8 x := by
    rw [bytesV_flat] at l3
    have : ∀ (ys : List Int) (vs : List Value), RowRep X (ys.map bV) vs → vs = ys.map fun x => Value.int .u8 x := by
      intro ys
      induction ys with
      | nil => intro vs h; simpa [RowRep] using h
      | cons y ys ih =>
        intro vs h
        simp only [List.map_cons, RowRep] at h
        obtain ⟨u, us', rfl, g1, g2⟩ := h
        simp only [bV, VRep] at g1
        rw [g1, ih us' g2]; rfl
    exact this xs us l3
  have hrun : (Conv.bytesToString (ρ x)).run P X.w = .ok (.string (bS xs)) X.w := by
    rw [hs]
    refine run_b2s rfl ?_
    by_cases h0 : xs.length = 0
    · exact .inl h0
    · refine .inr ?_
      have h6 := l6 X.w.drawn (bytesV xs).length (Nat.le_refl _)
      rw [hs] at h6
      cases a with
      | none =>
        exfalso
        simp only [Builtin.firstCells] at h6
        have h7 := congrArg (fun r => match r with | Result.ok (v : Array Value) _ => v.size | _ => 0) h6
        rw [bytesV_len] at h7
        have h8 : us.length = xs.length := by rw [hus]; simp
        simp [Sem.run_pure] at h7
        omega
      | some ad =>
        refine ⟨ad, rfl, ?_⟩
        rw [bytesV_len] at h6
        have h8 : us.length = xs.length := by rw [hus]; simp
        rw [Nat.mul_one, List.take_of_length_le (by omega), hus] at h6
        have e1 : Builtin.firstCells 1 xs.length (.slice (some ad) xs.length c) = loadCells ad (xs.length * 1) := rfl
        rw [e1, Nat.mul_one] at h6
        exact h6
  have hc : convert ty ty2 (ρ x) = (do match ← underlying ty, ← underlying ty2, ρ x with | _, _, _ => Conv.bytesToString (ρ x)) ∨ True := .inr trivial
  rw [hs] at hrun ⊢
  unfold convert
  simp only [Sem.run_bind, run_under hu, run_under hu2, Result.andThen_ok, run_under he]
  exact hrun
theorem sl_shape {v : V} {e : Nat} {xs : List (List V)} (h : IsSl v e xs) {m : Nat} (hm : xs.length = m) : ∀ X u, VRep X v u → ∃ a c, u = .slice a m c := by
  intro X u hv
  obtain ⟨a, c, h1, _⟩ := h.rep hv
  exact ⟨a, c, by rw [h1, hm]⟩
end
/-! ### Zeros appended -/
/-- What append comes to, its cells told. -/
def AppRuns (P : Program) (tys : Array TypeId) (ty0 el : TypeId) (e : Nat) (u : Value) (n : Nat) (new : List Value) (w : World) : Prop :=
  (∀ (a : Option Addr) (len cap : Nat) (w' : World), len + n ≤ cap → (match a with | some a => (storeCells (a.add (len * e)) new).run P w = .ok () w' | none => w' = w) → (Builtin.append_ tys ty0 #[.slice a len cap, u]).run P w = .ok (.slice a (len + n) cap) w') ∧
  ∀ (a : Option Addr) (len cap : Nat) (old : List Value), cap < len + n → len + n ≤ 1073741824 → (∀ d, (Builtin.firstCells e len (.slice a len cap)).run P { w with drawn := d } = .ok old.toArray { w with drawn := d }) →
    ∃ d c rest, len + n ≤ c ∧ rest.length = (c - (len + n)) * e ∧ (Builtin.append_ tys ty0 #[.slice a len cap, u]).run P w = .ok (.slice (some ⟨w.heap.size, 0, none⟩) (len + n) c) (({ w with drawn := d } : World).alloc (.cells (old ++ new ++ rest).toArray el (0, 0)))
section
variable {P : Program} {o : Oper} {t : Nat → V} {pre up : List (Nat × Box)} {val : V} {l : List (Nat × V)}
theorem append_reallocA {el : TypeId} {tys : Array TypeId} {e n k : Nat} {X : Ctx} {a : Option Addr} {cap : Nat} {u : Value} {xs ys : List (List V)} (hR : R n X) (hk : X.bx k = .dead ∨ ∃ m0, X.bx k = .tail m0 ∧ m0 < xs.length + ys.length) (hkn : k < n)
    (hxs : xs = [] ∨ ∃ b q, a = some ⟨b, q, none⟩ ∧ RowsAt X e xs b q) (hyl : ∀ r ∈ ys, r.length = e) (hlt : cap < xs.length + ys.length) (hb : xs.length + ys.length ≤ 1073741824) (ty0 : TypeId)
    {new : List Value} (hnr : RowRep X ys.flatten new) (hnl : new.length = ys.length * e) (hn1 : ∀ x ∈ new, oneV x = true) (hA : AppRuns P tys ty0 el e u ys.length new X.w) :
    ∃ X' u', (Builtin.append_ tys ty0 #[.slice a xs.length cap, u]).run P X.w = .ok u' X'.w ∧ X'.bx = upd X.bx k (.tail (xs.length + ys.length)) ∧ R n X' ∧ Ext X X' ∧ VRep X' (.own e (xs ++ ys) k) u' := by
  have hold : ∃ old, RowRep X xs.flatten old ∧ old.length = xs.length * e ∧ (∀ x ∈ old, oneV x = true) ∧ (∀ r ∈ xs, r.length = e) ∧ ∀ d, (Builtin.firstCells e xs.length (.slice a xs.length cap)).run P { X.w with drawn := d } = .ok old.toArray { X.w with drawn := d } := by
    rcases hxs with rfl | ⟨b, q, rfl, h3⟩
    · refine ⟨[], by simp [RowRep], by simp, by simp, by simp, fun d => ?_⟩
      cases a with
      | none => rfl
      | some a => simp [Builtin.firstCells, loadCells, loadCellsFrom]
    · obtain ⟨us, g1, g2, g3, g4⟩ := h3.flat
      refine ⟨us, g1, g2, g4, h3.lens, fun d => ?_⟩
      have := run_loadCells_list (P := P) { X.w with drawn := d } ⟨b, q, none⟩ us (fun j v hj => by rw [addr_add]; exact g3 j v hj)
      rw [g2] at this
      exact this
  obtain ⟨old, o1, o2, o3, o4, o5⟩ := hold
  obtain ⟨d, c, rest, hc, hrl, hrun⟩ := hA.2 a xs.length cap old hlt hb o5
  obtain ⟨X', x1, x2, x3, x4, x5⟩ := new_grow (k := k) (m := xs.length + ys.length) (st := (xs.length + ys.length) * e) (cells := (old ++ new ++ rest).toArray) (ty := el) hR hk hkn d
  have hh : X'.w.heap[X.w.heap.size]? = some (.cells ((old ++ new) ++ rest).toArray el (0, 0)) := by
    rw [x2]
    show (X.w.heap.push _)[X.w.heap.size]? = _
    simp
  have hrr : RowRep X' (xs ++ ys).flatten (old ++ new) := by
    rw [List.flatten_append]
    exact RowRep.mono x5 _ _ (o1.append hnr)
  have h11 : ∀ x ∈ old ++ new, oneV x = true := fun x hx => (List.mem_append.1 hx).elim (o3 x) (hn1 x)
  have hll : ∀ r ∈ xs ++ ys, r.length = e := fun r hr => (List.mem_append.1 hr).elim (o4 r) (hyl r)
  have hrows := stb_new (X := X) x3 hh (by rw [List.length_append, o2, hnl, Nat.add_mul]) hrr hll h11
  refine ⟨X', _, by rw [hrun, ← x2], x1, x4, x5, ?_⟩
  simp only [VRep]
  refine ⟨some ⟨X.w.heap.size, 0, none⟩, c, by rw [List.length_append], by rw [List.length_append]; exact hc, .inr ⟨_, _, rfl, hrows⟩, xs.length + ys.length, by rw [x1, upd_eq], Nat.le_of_eq List.length_append, fun _ => .inr ?_⟩
  refine ⟨X.w.heap.size, 0, _, _, el, rfl, x3, by rw [List.length_append]; omega, hh, ?_⟩
  simp only [List.size_toArray, List.length_append, o2, hnl, hrl]
  rw [← Nat.add_mul, ← Nat.add_mul]
  rw [show xs.length + ys.length + (c - (xs.length + ys.length)) = c by omega]
  omega
theorem step_append_ownA {el : TypeId} {tys : Array TypeId} {e k : Nat} {x y : Operand} {vy : V} {xs ys : List (List V)} (ho : o.op = .call { callee := .builtin .append, args := #[x, y], argTypes := tys })
    (hx : ev t x = .own e xs k) (hy : ev t y = vy) (hvy : ∀ n X u, R n X → VRep X vy u → (∀ p ∈ pre, X.bx p.1 = p.2) → (∀ r ∈ ys, r.length = e) ∧ ∃ new, RowRep X ys.flatten new ∧ new.length = ys.length * e ∧ (∀ x ∈ new, oneV x = true) ∧ AppRuns P tys o.type el e u ys.length new X.w) (hb : xs.length + ys.length ≤ 1073741824) :
    StepOK P o t ((k, .tail xs.length) :: pre) [(k, .tail (xs ++ ys).length)] (.own e (xs ++ ys) k) := by
  rw [List.length_append]
  intro n X a next Q hR hop hpre hup hk
  have g1 := hop x (by simp [ho, Op.operands, Call.operands])
  have g2 := hop y (by simp [ho, Op.operands, Call.operands])
  rw [hx] at g1; rw [hy] at g2
  have hkd : X.bx k = .tail xs.length := hpre (k, .tail xs.length) (by simp)
  have hkn : k < n := hup (k, .tail (xs.length + ys.length)) (by simp)
  obtain ⟨l2, new, l3, l4, l5, lA⟩ := hvy n X _ hR g2 (fun p hp => hpre p (List.mem_cons_of_mem _ hp))
  have g1' := g1
  simp only [VRep] at g1
  obtain ⟨ad, cap, s1, s2, s3, n0, s4, s5, s6⟩ := g1
  rw [hkd] at s4
  cases s4
  have hex : execOp a.eval o = (do pure (.value (← Builtin.append_ tys o.type #[a.eval x, a.eval y]))) := by
    rw [exec_builtin ho]
    have e1 : (#[x, y].map a.eval : Array Value) = #[a.eval x, a.eval y] := by simp
    rw [e1]; rfl
  have key : ∃ X' u', (Builtin.append_ tys o.type #[a.eval x, a.eval y]).run P X.w = .ok u' X'.w ∧ X'.bx = upd X.bx k (.tail (xs.length + ys.length)) ∧ R n X' ∧ Ext X X' ∧ VRep X' (.own e (xs ++ ys) k) u' := by
    by_cases hys : ys.length = 0
    · have hy0 : ys = [] := List.length_eq_zero_iff.1 hys
      subst hy0
      have hnew : new = [] := by simp at l4; exact List.length_eq_zero_iff.1 (by simpa using l4)
      subst hnew
      rw [s1] at g1' ⊢
      refine ⟨X, _, lA.1 _ _ _ X.w (by simpa using s2) ?_, ?_, hR, Ext.refl X, by simpa using g1'⟩
      · cases ad with
        | none => rfl
        | some ad => simp [storeCells]
      · funext j
        by_cases e1 : j = k
        · subst e1; rw [upd_eq, hkd]; rfl
        · rw [upd_ne _ _ _ _ e1]
    · rw [s1]
      by_cases hroom : xs.length + ys.length ≤ cap
      · rcases s6 rfl with h7 | ⟨b, q, st, arr, ty', h7, h8, h9, h10, h11⟩
        · omega
        · subst h7
          have he0 : ys.length * e = new.length := l4.symm
          have hcape : (xs.length + ys.length) * e ≤ cap * e := Nat.mul_le_mul hroom (Nat.le_refl _)
          rw [Nat.add_mul] at hcape
          obtain ⟨w', r1, r2, r3, r4, r5, r6, r7⟩ := run_storeCells (P := P) (b := b) new st 0 X.w arr.toList ty' (by simpa using h10) (by simp; omega) l5
          have hsame : ∀ j, j < st → (arr.toList.take (st + 0) ++ new ++ arr.toList.drop (st + 0 + new.length))[j]? = arr.toList[j]? := by
            intro j hj
            have hlt : j < arr.toList.length := by simp; omega
            rw [List.append_assoc, List.getElem?_append_left (by simp; omega), List.getElem?_take, if_pos (by omega)]
          obtain ⟨t1, t2⟩ := grow_in (m := xs.length + ys.length) (st' := st + new.length) hR hkd (by omega) h8 (by omega) (us := arr.toList) (by simpa using h10) r2 r3 r4 r5 r6 r7 hsame
          have hb1 : a.eval y = a.eval y := rfl
          refine ⟨_, _, lA.1 _ _ _ w' hroom ?_, rfl, t1, t2, ?_⟩
          · show (storeCells ((⟨b, q, none⟩ : Addr).add (xs.length * e)) new).run P X.w = _
            rw [addr_add, h9]; exact r1
          · have hrows : RowsAt { X with O := upd X.O b (.grow k (st + new.length)), bx := upd X.bx k (.tail (xs.length + ys.length)), w := w' } e (xs ++ ys) b q := by
              have hnew : RowsAt { X with O := upd X.O b (.grow k (st + new.length)), bx := upd X.bx k (.tail (xs.length + ys.length)), w := w' } e ys b st := by
                refine rowsAt_of (RowRep.mono t2 _ _ l3) l2 (fun j v hj => ?_) (fun j hj => ?_) l5
                · show w'.cell? _ = _
                  have hjl : j < new.length := (List.getElem?_eq_some_iff.1 hj).1
                  have hsl : st ≤ arr.toList.length := by simp; omega
                  rw [cell_some r7, List.append_assoc, List.getElem?_append_right (by rw [List.length_take]; omega), List.getElem?_append_left (by rw [List.length_take]; omega)]
                  have : st + j - (List.take (st + 0) arr.toList).length = j := by rw [List.length_take]; omega
                  rw [this]; exact hj
                · show Stb (upd X.O b _ b) _
                  rw [upd_eq]; show st + j < st + new.length; omega
              rcases s3 with rfl | ⟨b', q', h12, h13⟩
              · simp at h9; subst h9; simpa using hnew
              · cases h12
                refine RowsAt.append (RowsAt.mono t2 e xs b q h13) ?_
                rw [h9]; exact hnew
            simp only [VRep]
            refine ⟨some ⟨b, q, none⟩, cap, by rw [List.length_append], by rw [List.length_append]; exact hroom, .inr ⟨b, q, rfl, hrows⟩, xs.length + ys.length, upd_eq _ _ _, Nat.le_of_eq List.length_append, fun _ => .inr ?_⟩
            refine ⟨b, q, st + new.length, _, ty', rfl, upd_eq _ _ _, ?_, r7, ?_⟩
            · rw [List.length_append, Nat.add_mul]; omega
            · simp; omega
      · exact append_reallocA hR (.inr ⟨_, hkd, by omega⟩) hkn s3 l2 (by omega) hb o.type l3 l4 l5 lA
  obtain ⟨X', u', k1, k2, k3, k4, k5⟩ := key
  unfold Oper.wp
  rw [exec_run hex k1]
  exact hk X' u' k2 k3 k4 k5
theorem app_zeros {ty el ty2 : TypeId} {tys : Array TypeId} {e n : Nat} {w : World} {z : Value} {k : IntKind} (h0 : tys[0]? = some ty) (h1 : tys[1]? = some ty2) (hu : P.underlying ty = some (.slice el)) (hu2 : P.underlying ty2 = some (.int .i64)) (he : ElemT P el e) (hz : (P.info? el).bind (·.zero) = some z) (hzs : z.cells.size = e) (hn : n ≤ 1073741824) (ty0 : TypeId) :
    AppRuns P tys ty0 el e (.int k n) n (if n * e = 0 then [] else (Builtin.zeroCells z.cells n).toList) w := by
  obtain ⟨hs, _, i, hi, hib⟩ := he
  have hti : ∀ w, (typeInfo el).run P w = .ok i w := fun w => by simp [typeInfo, hi]
  have hw : IntKind.i64.wrap (n : Int) = n := w64 (by omega)
  have hroom : ∀ m w, (askRoom m).run P w = .ok () w := by intro m w; unfold askRoom; split <;> rfl
  have hlb : ¬ ((n : Int) * (i.bytes : Int) > 2 ^ 48) := by
    have h1 : n * i.bytes ≤ 1073741824 * 4096 := Nat.mul_le_mul hn hib
    have h2 : ((n * i.bytes : Nat) : Int) ≤ ((1073741824 * 4096 : Nat) : Int) := Int.ofNat_le.2 h1
    rw [Int.natCast_mul] at h2
    omega
  have hneg : ¬ ((n : Int) < 0) := by omega
  have hai : ∀ w, (asInt (.int k n)).run P w = .ok (n : Int) w := fun w => rfl
  have happ : ∀ w, (if n * e = 0 then (pure #[] : Sem (Array Value)) else do pure (Builtin.zeroCells (← zeroValue el).cells n)).run P w = .ok (if n * e = 0 then [] else (Builtin.zeroCells z.cells n).toList).toArray w := by
    intro w
    split
    · rfl
    · simp only [Sem.run_bind, run_zero hz, Result.andThen_ok, Sem.run_pure]
  refine ⟨fun a len cap w' hle hst => ?_, fun a len cap old hlt hb ho => ?_⟩
  · unfold Builtin.append_
    simp only [h0, h1, List.getElem?_toArray, List.getElem?_cons_zero, List.getElem?_cons_succ, Sem.run_bind, run_under hu, run_under hu2, Result.andThen_ok, run_size hs, Sem.run_pure, if_true, Bool.not_true, Bool.false_eq_true, if_false, hai, hw, hneg, hti, hlb, Int.toNat_natCast, hle, happ]
    cases a with
    | none => simp only at hst; subst hst; rfl
    | some a => simp only at hst; simp only [hst, Sem.run_bind, Result.andThen_ok, Sem.run_pure]
  · have hbnd : Builtin.nextslicecap (len + n) cap * i.bytes ≤ 2 ^ 48 := by
      have h2 := nextslicecap_le (len + n) cap hlt
      calc Builtin.nextslicecap (len + n) cap * i.bytes ≤ (2 * (len + n) + 512) * 4096 := Nat.mul_le_mul h2 hib
        _ ≤ 2 ^ 48 := by omega
    let q : Question := .appendCap (len + n) cap el
    let c := q.cut (w.tape w.drawn q)
    have hc : len + n ≤ c := by show len + n ≤ (len + n) + _ % _; omega
    refine ⟨w.drawn + 1, c, (Builtin.zeroCells z.cells (c - (len + n))).toList, hc, by simp [zeroCells_size, hzs], ?_⟩
    have hchoose : (choose q).run P w = .ok c { w with drawn := w.drawn + 1 } := by simp [choose, Sem.run, q, Question.forced, c]
    have hnle : ¬ len + n ≤ cap := by omega
    have hi0 : ¬ (((len + n : Nat) : Int) > IntKind.i64.max) := by rw [IntKind.max_i64]; omega
    unfold Builtin.append_
    simp only [h0, h1, List.getElem?_toArray, List.getElem?_cons_zero, List.getElem?_cons_succ, Sem.run_bind, run_under hu, run_under hu2, Result.andThen_ok, run_size hs, Sem.run_pure, if_true, Bool.not_true, Bool.false_eq_true, if_false, hai, hw, hneg, hti, hlb, Int.toNat_natCast, hnle, hi0, false_and]
    rw [if_neg (by omega)]
    simp only [Sem.run_bind, hti, Result.andThen_ok]
    rw [show (Question.appendCap (len + n) cap el) = q from rfl, hchoose]
    simp only [Result.andThen_ok, hroom, ho, happ, run_zero hz, newRow, newObj, Sem.run_bind]
    have e1 : ∀ nw : List Value, (old ++ nw ++ (Builtin.zeroCells z.cells (c - (len + n))).toList).toArray = old.toArray ++ nw.toArray ++ Builtin.zeroCells z.cells (c - (len + n)) := by simp
    rw [e1]
    rfl
theorem step_append_z {ty el ty2 : TypeId} {tys : Array TypeId} {e k m : Nat} {x y : Operand} {kd : IntKind} {z : Value} {zs : List Value} {xs : List (List V)} (ho : o.op = .call { callee := .builtin .append, args := #[x, y], argTypes := tys })
    (h0 : tys[0]? = some ty) (h1 : tys[1]? = some ty2) (hu : P.underlying ty = some (.slice el)) (hu2 : P.underlying ty2 = some (.int .i64)) (he : ElemT P el e) (hz : (P.info? el).bind (·.zero) = some z) (hzs : z.cells.toList = zs) (hzl : zs.length = e) (h1v : zs.all oneV = true)
    (hx : ev t x = .own e xs k) (hy : ev t y = .sc (.int kd m)) (hb : xs.length + m ≤ 1073741824) :
    StepOK P o t [(k, .tail xs.length)] [(k, .tail (xs ++ List.replicate m (zs.map V.sc)).length)] (.own e (xs ++ List.replicate m (zs.map V.sc)) k) := by
  refine step_append_ownA (el := el) ho hx hy (fun n X u hR hv _ => ?_) (by simpa using hb)
  simp only [VRep] at hv
  subst hv
  refine ⟨fun r hr => by rw [List.eq_of_mem_replicate hr]; simpa using hzl, _, ?_, ?_, ?_, by
    have := app_zeros (n := m) (w := X.w) (k := kd) h0 h1 hu hu2 he hz (by rw [← Array.length_toList, hzs]; exact hzl) (by omega) o.type
    rw [List.length_replicate]; exact this⟩
  · have hzr := zero_rows z e (by rw [← Array.length_toList, hzs]; exact hzl) m
    rw [hzs] at hzr
    have hrow : ∀ m, RowRep X (List.replicate m (zs.map V.sc)).flatten (List.replicate m zs).flatten := by
      intro m
      induction m with
      | zero => simp [RowRep]
      | succ m ih => simp only [List.replicate_succ, List.flatten_cons]; exact (rowRep_sc X zs).append ih
    have hzc : (Builtin.zeroCells z.cells m).toList = (List.replicate m zs).flatten := by
      rw [← hzr]
      have : z.cells.size = e := by rw [← Array.length_toList, hzs]; exact hzl
      unfold Builtin.zeroCells; rw [this]
    split
    · rename_i h
      rcases Nat.mul_eq_zero.1 h with h | h
      · subst h; simp [RowRep]
      · have : zs = [] := List.length_eq_zero_iff.1 (by omega)
        subst this
        have h2 := hrow m
        simpa using h2
    · rw [hzc]; exact hrow m
  · rw [List.length_replicate]
    split
    · rename_i h; rw [h]; rfl
    · have : z.cells.size = e := by rw [← Array.length_toList, hzs]; exact hzl
      simp [zeroCells_size, this]
  · intro x hx
    by_cases h : m * e = 0
    · rw [if_pos h] at hx; cases hx
    · rw [if_neg h] at hx
      simp only [Builtin.zeroCells, Array.toList_map, List.mem_map] at hx
      obtain ⟨j, _, rfl⟩ := hx
      have hpos : 0 < z.cells.size := by
        rw [← Array.length_toList, hzs, hzl]
        exact Nat.pos_of_ne_zero (fun h0 => h (by rw [h0, Nat.mul_zero]))
      have hm : z.cells[j % z.cells.size]! ∈ zs := by
        rw [← hzs, getElem!_pos z.cells _ (Nat.mod_lt _ hpos)]
        exact Array.getElem_mem_toList _
      exact List.all_eq_true.1 h1v _ hm
/-! ### Texts put together, compared -/
section
variable {B : Bas} {N n : Nat} {Q : Exit → S → Prop} {ops : Array Oper} {L : List Oper} {bx : Nat → Box} {acc : List Ac} {ty ty2 : TypeId} {x y : Operand} {d : Nat} {a b : ByteArray}
end
end
end Go.Vm
