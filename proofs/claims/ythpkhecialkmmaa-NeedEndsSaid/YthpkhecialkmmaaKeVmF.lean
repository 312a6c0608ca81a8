/- A logic of values over the model. Part F: structs and slices built, made, cut; what is copied. -/
import Derived.Test.YthpkhecialkmmaaKeVmE
set_option linter.unusedVariables false
set_option linter.unusedSimpArgs false
namespace Go.Vm
section
variable {P : Program} {o : Oper} {t : Nat → V} {pre up : List (Nat × Box)} {val : V}
/-! ### Built values -/
def setSeg {α : Type} (cs : List α) (off : Nat) (vs : List α) : List α := cs.take off ++ vs ++ cs.drop (off + vs.length)
def fillV (place : Nat → Option (Nat × Nat)) (cs : List V) : List (Nat × V) → Option (List V)
  | [] => some cs
  | (i, v) :: rest =>
    match place i with
    | none => none
    | some (off, size) => if v.cs.length = size ∧ off + size ≤ cs.length ∧ v.stor = true then fillV place (setSeg cs off v.cs) rest else none
theorem foldl_seg (off : Nat) : ∀ (vs : List Value) (i : Nat) (us : List Value), off + i + vs.length ≤ us.length →
    (vs.zipIdx i).foldl (fun (cs : Array Value) (p : Value × Nat) => cs.setIfInBounds (off + p.2) p.1) us.toArray = (us.take (off + i) ++ vs ++ us.drop (off + i + vs.length)).toArray
  | [], i, us, h => by simp
  | v :: vs, i, us, h => by
    have hlt : off + i < us.length := by simp at h; omega
    rw [List.zipIdx_cons, List.foldl_cons]
    have e0 : us.toArray.setIfInBounds (off + i) v = (us.set (off + i) v).toArray := by simp
    rw [e0, foldl_seg off vs (i + 1) _ (by simp at h ⊢; omega)]
    have e1 : (us.set (off + i) v).take (off + (i + 1)) = us.take (off + i) ++ [v] := by
      rw [show off + (i + 1) = off + i + 1 by omega, List.take_add_one, List.take_set_of_le (by omega), List.getElem?_set_self hlt]; rfl
    have e2 : (us.set (off + i) v).drop (off + (i + 1) + vs.length) = us.drop (off + i + (vs.length + 1)) := by
      rw [List.drop_set_of_lt (by omega)]; congr 1; omega
    rw [e1, e2]
    simp
theorem fill_cons {place : Nat → Option (Nat × Nat)} {i off size : Nat} {v : Value} {us vs : List Value} {rest : List (Nat × Value)} (hp : place i = some (off, size)) (hv : v.cells = vs.toArray) (hl : vs.length = size) (hb : off + size ≤ us.length) :
    Instr.fill place us.toArray ((i, v) :: rest) = Instr.fill place (setSeg us off vs).toArray rest := by
  have := foldl_seg off vs 0 us (by omega)
  simp only [Nat.add_zero] at this
  conv => lhs; unfold Instr.fill
  simp only [hp, hv]
  rw [if_neg (by simp [hl]; omega)]
  congr 1
  rw [← Array.foldl_toList]
  simp only [Array.toList_zipIdx]
  exact this
theorem rep_fill {X : Ctx} {place : Nat → Option (Nat × Nat)} : ∀ (ps : List (Nat × V)) (qs : List (Nat × Value)) (cs cs' : List V) (us : List Value), ps.map (·.1) = qs.map (·.1) → RowRep X (ps.map (·.2)) (qs.map (·.2)) → RowRep X cs us → (∀ x ∈ us, oneV x = true) → fillV place cs ps = some cs' →
    ∃ us', Instr.fill place us.toArray qs = some us'.toArray ∧ RowRep X cs' us' ∧ (∀ x ∈ us', oneV x = true) ∧ us'.length = us.length
  | [], qs, cs, cs', us, h1, h2, h3, h4, h5 => by
    have : qs = [] := by cases qs <;> simp_all
    subst this
    simp [fillV] at h5; subst h5
    exact ⟨us, rfl, h3, h4, rfl⟩
  | (i, v) :: ps, qs, cs, cs', us, h1, h2, h3, h4, h5 => by
    cases qs with
    | nil => simp at h1
    | cons q qs =>
      obtain ⟨j, u⟩ := q
      simp at h1
      obtain ⟨rfl, h1⟩ := h1
      simp only [List.map_cons, RowRep] at h2
      obtain ⟨u', us', h6, h7, h8⟩ := h2
      cases h6
      simp only [fillV] at h5
      split at h5
      · cases h5
      · rename_i off size hp
        split at h5
        · rename_i hc
          obtain ⟨hc1, hc2, hc3⟩ := hc
          obtain ⟨vs, g1, g2, g3⟩ := rep_cells h7 hc3
          have hvl : vs.length = size := by rw [← g2.length]; exact hc1
          have hul : us.length = cs.length := h3.length.symm
          have hseg : RowRep X (setSeg cs off v.cs) (setSeg us off vs) := by
            unfold setSeg
            rw [g2.length]
            exact ((h3.take off).append g2).append (h3.drop _)
          have hone : ∀ x ∈ setSeg us off vs, oneV x = true := by
            intro x hx
            unfold setSeg at hx
            rcases List.mem_append.1 hx with hx | hx
            · rcases List.mem_append.1 hx with hx | hx
              · exact h4 x (List.mem_of_mem_take hx)
              · exact g3 x hx
            · exact h4 x (List.mem_of_mem_drop hx)
          obtain ⟨w, k1, k2, k3, k4⟩ := rep_fill ps qs _ cs' _ h1 h8 hseg hone h5
          refine ⟨w, ?_, k2, k3, ?_⟩
          · rw [fill_cons hp g1 hvl (by omega)]; exact k1
          · rw [k4]; unfold setSeg; simp; omega
        · cases h5
theorem rowRep_ops {X : Ctx} {ρ : Operand → Value} : ∀ (xs : List (Nat × Operand)), (∀ p ∈ xs, VRep X (ev t p.2) (ρ p.2)) → RowRep X ((xs.map fun p => (p.1, ev t p.2)).map (·.2)) ((xs.map fun p => (p.1, ρ p.2)).map (·.2))
  | [], h => by simp [RowRep]
  | x :: xs, h => by
    simp only [List.map_cons, RowRep]
    exact ⟨_, _, rfl, h x (List.mem_cons_self ..), rowRep_ops xs (fun p hp => h p (List.mem_cons_of_mem _ hp))⟩
theorem run_places : ∀ (fs : List Field) (ss : List Nat) (w : World), fs.map (fun f => (P.info? f.type).map (·.size)) = ss.map some →
    (fs.mapM (m := Sem) fun f => do pure (f.offset, ← sizeOf f.type)).run P w = .ok ((fs.map (·.offset)).zip ss) w
  | [], ss, w, h => by cases ss <;> simp_all
  | f :: fs, ss, w, h => by
    cases ss with
    | nil => simp at h
    | cons s ss =>
      simp at h
      have hs : (P.info? f.type).map (·.size) = some s := by simpa using h.1
      rw [List.mapM_cons]
      simp only [Sem.run_bind, run_size hs, Result.andThen_ok, Sem.run_pure, run_places fs ss w (by simpa using h.2)]
      rfl
/-- A struct built out of parts. -/
theorem step_build {ty : TypeId} {ps : Array (Nat × Operand)} {fs : Array Field} {ss : List Nat} {z : Value} {zs : List Value} {cs : List V} (ho : o.op = .build ty ps) (hu : P.underlying ty = some (.struct fs)) (hss : fs.toList.map (fun f => (P.info? f.type).map (·.size)) = ss.map some)
    (hz : (P.info? ty).bind (·.zero) = some z) (hzs : z.cells = zs.toArray) (h1 : zs.all oneV = true)
    (hc : fillV (fun (i : Nat) => ((fs.toList.map (·.offset)).zip ss)[i]?) (zs.map V.sc) (ps.toList.map fun p => (p.1, ev t p.2)) = some cs) : StepOK P o t [] [] (.agg cs) := by
  refine step_value fun n X ρ hR hop hpre => ?_
  have hops : ∀ p ∈ ps.toList, VRep X (ev t p.2) (ρ p.2) := fun p hp => hop p.2 (by simp only [ho, Op.operands]; simp; exact ⟨p.1, by simpa using hp⟩)
  obtain ⟨us', k1, k2, k3, _⟩ := rep_fill (X := X) (place := fun (i : Nat) => ((fs.toList.map (·.offset)).zip ss)[i]?) _ (ps.toList.map fun p => (p.1, ρ p.2)) _ cs zs (by simp) (rowRep_ops ps.toList hops) (rowRep_sc X zs) (by simpa [List.all_eq_true] using h1) hc
  refine ⟨.agg us'.toArray, exec_run (exec_build ho) ?_, by simp only [VRep]; exact ⟨us', rfl, k2, k3⟩⟩
  unfold Instr.build
  simp only [Sem.run_bind, run_zero hz, run_under hu, Result.andThen_ok]
  have hm : (fs.mapM (m := Sem) fun f => do pure (f.offset, ← sizeOf f.type)).run P X.w = .ok ((fs.toList.map (·.offset)).zip ss).toArray X.w := by
    rw [Array.mapM_eq_mapM_toList]
    simp only [Sem.run_bind, map_eq_pure_bind]
    erw [run_places fs.toList ss X.w hss]
    rfl
  rw [hm]
  simp only [Result.andThen_ok, hzs]
  have e2 : (ps.map fun x => match x with | (i, x) => (i, ρ x)).toList = ps.toList.map fun p => (p.1, ρ p.2) := by simp
  rw [e2]
  have e3 : (fun (x : Nat) => ((fs.toList.map (·.offset)).zip ss).toArray[x]?) = fun (i : Nat) => ((fs.toList.map (·.offset)).zip ss)[i]? := by funext i; simp
  rw [e3, k1]
  rfl
/-- An array built out of parts. -/
theorem step_build_arr {ty el : TypeId} {ps : Array (Nat × Operand)} {len e : Nat} {z : Value} {zs : List Value} {cs : List V} (ho : o.op = .build ty ps) (hu : P.underlying ty = some (.array len el)) (he : (P.info? el).map (·.size) = some e)
    (hz : (P.info? ty).bind (·.zero) = some z) (hzs : z.cells = zs.toArray) (h1 : zs.all oneV = true)
    (hc : fillV (fun i => some (i * e, e)) (zs.map V.sc) (ps.toList.map fun p => (p.1, ev t p.2)) = some cs) : StepOK P o t [] [] (.agg cs) := by
  refine step_value fun n X ρ hR hop hpre => ?_
  have hops : ∀ p ∈ ps.toList, VRep X (ev t p.2) (ρ p.2) := fun p hp => hop p.2 (by simp only [ho, Op.operands]; simp; exact ⟨p.1, by simpa using hp⟩)
  obtain ⟨us', k1, k2, k3, _⟩ := rep_fill (X := X) (place := fun i => some (i * e, e)) _ (ps.toList.map fun p => (p.1, ρ p.2)) _ cs zs (by simp) (rowRep_ops ps.toList hops) (rowRep_sc X zs) (by simpa [List.all_eq_true] using h1) hc
  refine ⟨.agg us'.toArray, exec_run (exec_build ho) ?_, by simp only [VRep]; exact ⟨us', rfl, k2, k3⟩⟩
  unfold Instr.build
  simp only [Sem.run_bind, run_zero hz, run_under hu, Result.andThen_ok, run_size he, hzs]
  have e2 : (ps.map fun x => match x with | (i, x) => (i, ρ x)).toList = ps.toList.map fun p => (p.1, ρ p.2) := by simp
  rw [e2, k1]
  rfl
/-- The rows that cells are. -/
def rowsOf (e : Nat) : Nat → List V → List (List V)
  | 0, _ => []
  | n + 1, cs => cs.take e :: rowsOf e n (cs.drop e)
theorem rowsOf_len (e : Nat) : ∀ (n : Nat) (cs : List V), (rowsOf e n cs).length = n
  | 0, cs => rfl
  | n + 1, cs => by simp [rowsOf, rowsOf_len e n]
theorem rowsOf_flat (e : Nat) : ∀ (n : Nat) (cs : List V), cs.length = n * e → (rowsOf e n cs).flatten = cs ∧ ∀ r ∈ rowsOf e n cs, r.length = e
  | 0, cs, h => by simp at h; subst h; simp [rowsOf]
  | n + 1, cs, h => by
    rw [Nat.add_mul] at h
    obtain ⟨h1, h2⟩ := rowsOf_flat e n (cs.drop e) (by simp; omega)
    refine ⟨by simp [rowsOf, h1], fun r hr => ?_⟩
    simp only [rowsOf] at hr
    rcases List.mem_cons.1 hr with rfl | hr
    · simp; omega
    · exact h2 r hr
/-- A new block whose rows are read alone. -/
theorem fl_new {n m e : Nat} {X : Ctx} {xs : List (List V)} {us : List Value} {el : TypeId} (hR : R n X) (hr : RowRep X xs.flatten us) (hl : ∀ r ∈ xs, r.length = e) (h1 : ∀ x ∈ us, oneV x = true) :
    ∃ X', X'.bx = X.bx ∧ X'.w = X.w.alloc (.cells us.toArray el (0, 0)) ∧ R n X' ∧ Ext X X' ∧ VRep X' (.fl e xs) (.slice (some ⟨X.w.heap.size, 0, none⟩) xs.length xs.length) := by
  obtain ⟨X', x1, x2, x3, x4, x5⟩ := new_frz (cells := us.toArray) (ty := el) hR
  refine ⟨X', x1, x2, x4, x5, ?_⟩
  simp only [VRep]
  refine ⟨_, rfl, .inr ⟨_, _, rfl, rowsAt_of (RowRep.mono x5 _ _ hr) hl (fun j v hj => ?_) (fun j hj => by rw [x3]; trivial) h1⟩⟩
  have hh : X'.w.heap[X.w.heap.size]? = some (.cells us.toArray el (0, 0)) := by
    rw [x2]; show (X.w.heap.push _)[X.w.heap.size]? = _; simp
  rw [Nat.zero_add, cell_some hh]; exact hj
/-- A slice's literal. -/
theorem step_buildSlice {ty el : TypeId} {len e : Nat} {ps : Array (Nat × Operand)} {z : Value} {zs : List Value} {cs : List V} {xs : List (List V)} (ho : o.op = .buildSlice ty len ps) (hu : P.underlying ty = some (.slice el)) (he : (P.info? el).map (·.size) = some e)
    (hz : (P.info? el).bind (·.zero) = some z) (hzs : ((Array.range (len * e)).map (z.cells[· % z.cells.size]!)).toList = zs) (h1 : zs.all oneV = true) (hlim : len * e ≤ 2 ^ 24)
    (hc : fillV (fun i => some (i * e, e)) (zs.map V.sc) (ps.toList.map fun p => (p.1, ev t p.2)) = some cs) (hxs : rowsOf e len cs = xs) : StepOK P o t [] [] (.fl e xs) := by
  intro n X a next Q hR hop hpre hup hk
  have hops : ∀ p ∈ ps.toList, VRep X (ev t p.2) (a.eval p.2) := fun p hp => hop p.2 (by simp only [ho, Op.operands]; simp; exact ⟨p.1, by simpa using hp⟩)
  obtain ⟨us', k1, k2, k3, k4⟩ := rep_fill (X := X) (place := fun i => some (i * e, e)) _ (ps.toList.map fun p => (p.1, a.eval p.2)) _ cs zs (by simp) (rowRep_ops ps.toList hops) (rowRep_sc X zs) (by simpa [List.all_eq_true] using h1) hc
  have hzl : zs.length = len * e := by rw [← hzs]; simp
  have hcl : cs.length = len * e := by rw [k2.length, k4, hzl]
  obtain ⟨f1, f2⟩ := rowsOf_flat e len cs hcl
  rw [hxs] at f1 f2
  have hxl : xs.length = len := by
    rw [← hxs]
    exact rowsOf_len e len cs
  obtain ⟨X', x1, x2, x3, x4, x5⟩ := fl_new (m := 0) (e := e) (el := el) hR (by rw [f1]; exact k2) f2 k3
  have hrun : (Instr.buildSlice ty len (ps.map fun (i, x) => (i, a.eval x))).run P X.w = .ok (.slice (some ⟨X.w.heap.size, 0, none⟩) xs.length xs.length) X'.w := by
    unfold Instr.buildSlice
    simp only [Sem.run_bind, run_under hu, Result.andThen_ok, run_size he]
    rw [if_neg (by omega)]
    have e2 : (ps.map fun x => match x with | (i, x) => (i, a.eval x)).toList = ps.toList.map fun p => (p.1, a.eval p.2) := by simp
    simp only [e2]
    have e5 : ∀ zz : Array Value, (len * e = 0 ∨ zz = z.cells) → ((Array.range (len * e)).map fun x => zz[x % zz.size]!) = zs.toArray := by
      intro zz hzz
      rw [← hzs]
      by_cases h0 : len * e = 0
      · simp [h0]
      · rcases hzz with hzz | rfl
        · exact absurd hzz h0
        · rw [Array.toArray_toList]
    by_cases h0 : len * e = 0
    · rw [if_pos h0]
      simp only [Sem.run_bind, Sem.run_pure, Result.andThen_ok, e5 #[] (.inl h0), k1]
      rw [x2, hxl]
      rfl
    · rw [if_neg h0]
      simp only [Sem.run_bind, run_zero hz, Sem.run_pure, Result.andThen_ok, e5 z.cells (.inr rfl), k1]
      rw [x2, hxl]
      rfl
  unfold Oper.wp
  rw [exec_run (exec_buildSlice ho) hrun]
  exact hk X' _ x1 x3 x4 x5
/-! ### Parts of values -/
theorem run_part_one {ty : TypeId} {d : TypeDesc} {us : List Value} {off : Nat} {u : Value} {w : World} (hd : P.underlying ty = some d) (hd' : aggD d = false) (hu : us[off]? = some u) : (part ty us.toArray off).run P w = .ok u w := by
  unfold part
  simp only [Sem.run_bind, run_isAgg hd, hd', Result.andThen_ok, Bool.false_eq_true, if_false, List.getElem?_toArray, hu]
  rfl
theorem run_part_agg {ty : TypeId} {d : TypeDesc} {us : List Value} {off m : Nat} {w : World} (hd : P.underlying ty = some d) (hd' : aggD d = true) (hs : (P.info? ty).map (·.size) = some m) : (part ty us.toArray off).run P w = .ok (.agg ((us.drop off).take m).toArray) w := by
  unfold part
  simp only [Sem.run_bind, run_isAgg hd, hd', Result.andThen_ok, if_true, run_size hs]
  have : us.toArray.extract off (off + m) = ((us.drop off).take m).toArray := by simp
  rw [this]
  rfl
/-- An array's value's element, of one cell. -/
theorem step_index_agg {ty el : TypeId} {x y : Operand} {len : Nat} {kd : IntKind} {i : Int} {cs : List V} {v : V} (ho : o.op = .index ty x y) (hx : ev t x = .agg cs) (hy : ev t y = .sc (.int kd i)) (hu : P.underlying ty = some (.array len el)) (ht : OneT P el)
    (h0 : 0 ≤ i) (h1 : i < len) (hv : cs[i.toNat]? = some v) : StepOK P o t [] [] v := by
  refine step_value fun n X ρ hR hop hpre => ?_
  have g1 := hop x (by simp [ho, Op.operands])
  have g2 := hop y (by simp [ho, Op.operands])
  rw [hx] at g1; rw [hy] at g2
  simp only [VRep] at g1 g2
  obtain ⟨us, h2, h3, h4⟩ := g1
  obtain ⟨u, h5, h6⟩ := RowRep.get _ h3 hv
  obtain ⟨⟨d, hd, hd'⟩, hs⟩ := ht
  refine ⟨u, exec_run (exec_index ho) ?_, h6⟩
  rw [g2, h2]
  simp only [Instr.index, asIntOf, Sem.run_bind, Sem.run_pure, Result.andThen_ok, run_under hu, h0, h1, and_self, if_true, run_size hs, Nat.mul_one]
  exact run_part_one hd hd' h5
/-! ### Slices made -/
theorem zero_rows (z : Value) (e : Nat) (hz : z.cells.size = e) : ∀ len : Nat, ((Array.range (len * e)).map (z.cells[· % z.cells.size]!)).toList = (List.replicate len z.cells.toList).flatten
  | 0 => by simp
  | len + 1 => by
    have ih := zero_rows z e hz len
    rw [List.replicate_succ', List.flatten_append, ← ih]
    simp only [Array.toList_map, Array.toList_range]
    rw [show (len + 1) * e = len * e + e by rw [Nat.add_mul]; omega, List.range_add, List.map_append]
    congr 1
    simp only [List.map_map, List.flatten_cons, List.flatten_nil, List.append_nil]
    apply List.ext_getElem (by simp [hz])
    intro j h1 h2
    simp at h1
    simp only [List.getElem_map, List.getElem_range, Function.comp_def]
    have hm : (len * e + j) % z.cells.size = j := by
      rw [hz, Nat.add_comm, Nat.add_mul_mod_self_right, Nat.mod_eq_of_lt h1]
    rw [hm]
    have hj : j < z.cells.size := by omega
    simp [hj]
end
end Go.Vm

