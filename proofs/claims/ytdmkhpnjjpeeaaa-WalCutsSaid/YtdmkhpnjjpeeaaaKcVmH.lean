import Derived.Test.YtdmkhpnjjpeeaaaKcQq
import Derived.Test.YtdmkhpnjjpeeaaaKcVmE
import Derived.ChangeKeysEq
import Derived.DeepKeys
import Derived.Laws.StructEq
set_option linter.unusedVariables false
set_option linter.unusedSimpArgs false
namespace Go.Vm
section
variable {P : Program} {o : Oper} {t : Nat → V} {pre up : List (Nat × Box)} {val : V}
def setSeg {α : Type} (cs : List α) (off : Nat) (vs : List α) : List α := cs.take off ++ vs ++ cs.drop (off + vs.length)
def fillV (place : Nat → Option (Nat × Nat)) (cs : List V) : List (Nat × V) → Option (List V)
  | [] => some cs
  | (i, v) :: rest =>
    match place i with
    | none => none
    | some (off, size) => if v.cs.length = size ∧ off + size ≤ cs.length ∧ v.stor = true then fillV place (setSeg cs off v.cs) rest else none
theorem foldl_seg (off : Nat) : ∀ (vs : List Value) (i : Nat) (us : List Value), off + i + vs.length ≤ us.length →
    (vs.zipIdx i).foldl (fun (cs : Array Value) (p : Value × Nat) => cs.setIfInBounds (off + p.2) p.1) us.toArray = (us.take (off + i) ++ vs ++ us.drop (off + i + vs.length)).toArray
  | [], i, us, h => by simp
  | v :: vs, i, us, h => by
    have hlt : off + i < us.length := by simp at h; omega
    rw [List.zipIdx_cons, List.foldl_cons]
    have e0 : us.toArray.setIfInBounds (off + i) v = (us.set (off + i) v).toArray := by simp
    rw [e0, foldl_seg off vs (i + 1) _ (by simp at h ⊢; omega)]
    have e1 : (us.set (off + i) v).take (off + (i + 1)) = us.take (off + i) ++ [v] := by
      rw [show off + (i + 1) = off + i + 1 by omega, List.take_add_one, List.take_set_of_le (by omega), List.getElem?_set_self hlt]; rfl
    have e2 : (us.set (off + i) v).drop (off + (i + 1) + vs.length) = us.drop (off + i + (vs.length + 1)) := by
      rw [List.drop_set_of_lt (by omega)]; congr 1; omega
    rw [e1, e2]
    simp
theorem fill_cons {place : Nat → Option (Nat × Nat)} {i off size : Nat} {v : Value} {us vs : List Value} {rest : List (Nat × Value)} (hp : place i = some (off, size)) (hv : v.cells = vs.toArray) (hl : vs.length = size) (hb : off + size ≤ us.length) :
    Instr.fill place us.toArray ((i, v) :: rest) = Instr.fill place (setSeg us off vs).toArray rest := by
  have := foldl_seg off vs 0 us (by omega)
  simp only [Nat.add_zero] at this
  conv => lhs; unfold Instr.fill
  simp only [hp, hv]
  rw [if_neg (by simp [hl]; omega)]
  congr 1
  rw [← Array.foldl_toList]
  simp only [Array.toList_zipIdx]
  exact this
theorem rep_fill {X : Ctx} {place : Nat → Option (Nat × Nat)} : ∀ (ps : List (Nat × V)) (qs : List (Nat × Value)) (cs cs' : List V) (us : List Value), ps.map (·.1) = qs.map (·.1) → RowRep X (ps.map (·.2)) (qs.map (·.2)) → RowRep X cs us → (∀ x ∈ us, oneV x = true) → fillV place cs ps = some cs' →
    ∃ us', Instr.fill place us.toArray qs = some us'.toArray ∧ RowRep X cs' us' ∧ (∀ x ∈ us', oneV x = true) ∧ us'.length = us.length
  | [], qs, cs, cs', us, h1, h2, h3, h4, h5 => by
    have : qs = [] := by cases qs <;> simp_all
    subst this
    simp [fillV] at h5; subst h5
    exact ⟨us, rfl, h3, h4, rfl⟩
  | (i, v) :: ps, qs, cs, cs', us, h1, h2, h3, h4, h5 => by
    cases qs with
    | nil => simp at h1
    | cons q qs =>
      obtain ⟨j, u⟩ := q
      simp at h1
      obtain ⟨rfl, h1⟩ := h1
      simp only [List.map_cons, RowRep] at h2
      obtain ⟨u', us', h6, h7, h8⟩ := h2
      cases h6
      simp only [fillV] at h5
      split at h5
      · cases h5
      · rename_i off size hp
        split at h5
        · rename_i hc
          obtain ⟨hc1, hc2, hc3⟩ := hc
          obtain ⟨vs, g1, g2, g3⟩ := rep_cells h7 hc3
          have hvl : vs.length = size := by rw [← g2.length]; exact hc1
          have hul : us.length = cs.length := h3.length.symm
          have hseg : RowRep X (setSeg cs off v.cs) (setSeg us off vs) := by
            unfold setSeg
            rw [g2.length]
            exact ((h3.take off).append g2).append (h3.drop _)
          have hone : ∀ x ∈ setSeg us off vs, oneV x = true := by
            intro x hx
            unfold setSeg at hx
            rcases List.mem_append.1 hx with hx | hx
            · rcases List.mem_append.1 hx with hx | hx
              · exact h4 x (List.mem_of_mem_take hx)
              · exact g3 x hx
            · exact h4 x (List.mem_of_mem_drop hx)
          obtain ⟨w, k1, k2, k3, k4⟩ := rep_fill ps qs _ cs' _ h1 h8 hseg hone h5
          refine ⟨w, ?_, k2, k3, ?_⟩
          · rw [fill_cons hp g1 hvl (by omega)]; exact k1
          · rw [k4]; unfold setSeg; simp; omega
        · cases h5
theorem rowRep_ops {X : Ctx} {ρ : Operand → Value} : ∀ (xs : List (Nat × Operand)), (∀ p ∈ xs, VRep X (ev t p.2) (ρ p.2)) → RowRep X ((xs.map fun p => (p.1, ev t p.2)).map (·.2)) ((xs.map fun p => (p.1, ρ p.2)).map (·.2))
  | [], h => by simp [RowRep]
  | x :: xs, h => by
    simp only [List.map_cons, RowRep]
    exact ⟨_, _, rfl, h x (List.mem_cons_self ..), rowRep_ops xs (fun p hp => h p (List.mem_cons_of_mem _ hp))⟩
theorem run_places : ∀ (fs : List Field) (ss : List Nat) (w : World), fs.map (fun f => (P.info? f.type).map (·.size)) = ss.map some →
    (fs.mapM (m := Sem) fun f => do pure (f.offset, ← sizeOf f.type)).run P w = .ok ((fs.map (·.offset)).zip ss) w
  | [], ss, w, h => by cases ss <;> simp_all
  | f :: fs, ss, w, h => by
    cases ss with
    | nil => simp at h
    | cons s ss =>
      simp at h
      have hs : (P.info? f.type).map (·.size) = some s := by simpa using h.1
      rw [List.mapM_cons]
      simp only [Sem.run_bind, run_size hs, Result.andThen_ok, Sem.run_pure, run_places fs ss w (by simpa using h.2)]
      rfl
theorem step_build {ty : TypeId} {ps : Array (Nat × Operand)} {fs : Array Field} {ss : List Nat} {z : Value} {zs : List Value} {cs : List V} (ho : o.op = .build ty ps) (hu : P.underlying ty = some (.struct fs)) (hss : fs.toList.map (fun f => (P.info? f.type).map (·.size)) = ss.map some)
    (hz : (P.info? ty).bind (·.zero) = some z) (hzs : z.cells = zs.toArray) (h1 : zs.all oneV = true)
    (hc : fillV (fun (i : Nat) => ((fs.toList.map (·.offset)).zip ss)[i]?) (zs.map V.sc) (ps.toList.map fun p => (p.1, ev t p.2)) = some cs) : StepOK P o t [] [] (.agg cs) := by
  refine step_value fun n X ρ hR hop hpre => ?_
  have hops : ∀ p ∈ ps.toList, VRep X (ev t p.2) (ρ p.2) := fun p hp => hop p.2 t_157
  obtain ⟨us', k1, k2, k3, _⟩ := rep_fill (X := X) (place := fun (i : Nat) => ((fs.toList.map (·.offset)).zip ss)[i]?) _ (ps.toList.map fun p => (p.1, ρ p.2)) _ cs zs (by simp) (rowRep_ops ps.toList hops) (rowRep_sc X zs) (by simpa [List.all_eq_true] using h1) hc
  refine ⟨.agg us'.toArray, exec_run (exec_build ho) ?_, by simp only [VRep]; exact ⟨us', rfl, k2, k3⟩⟩;unfold Instr.build;simp only [Sem.run_bind, run_zero hz, run_under hu, Result.andThen_ok];have hm : (fs.mapM (m := Sem) fun f => do pure (f.offset, ← sizeOf f.type)).run P X.w = .ok ((fs.toList.map (·.offset)).zip ss).toArray X.w := by
    rw [Array.mapM_eq_mapM_toList]
    simp only [Sem.run_bind, map_eq_pure_bind]
    erw [run_places fs.toList ss X.w hss]
    rfl
  rw [hm]
  simp only [Result.andThen_ok, hzs]
  have e2 : (ps.map fun x => match x with | (i, x) => (i, ρ x)).toList = ps.toList.map fun p => (p.1, ρ p.2) := by simp
  rw [e2]
  have e3 : (fun (x : Nat) => ((fs.toList.map (·.offset)).zip ss).toArray[x]?) = fun (i : Nat) => ((fs.toList.map (·.offset)).zip ss)[i]? := by funext i; simp
  rw [e3, k1]
  rfl
theorem step_build_arr {ty el : TypeId} {ps : Array (Nat × Operand)} {len e : Nat} {z : Value} {zs : List Value} {cs : List V} (ho : o.op = .build ty ps) (hu : P.underlying ty = some (.array len el)) (he : (P.info? el).map (·.size) = some e)
    (hz : (P.info? ty).bind (·.zero) = some z) (hzs : z.cells = zs.toArray) (h1 : zs.all oneV = true)
    (hc : fillV (fun i => some (i * e, e)) (zs.map V.sc) (ps.toList.map fun p => (p.1, ev t p.2)) = some cs) : StepOK P o t [] [] (.agg cs) := by
  refine step_value fun n X ρ hR hop hpre => ?_
  have hops : ∀ p ∈ ps.toList, VRep X (ev t p.2) (ρ p.2) := fun p hp => hop p.2 t_157
  obtain ⟨us', k1, k2, k3, _⟩ := rep_fill (X := X) (place := fun i => some (i * e, e)) _ (ps.toList.map fun p => (p.1, ρ p.2)) _ cs zs (by simp) (rowRep_ops ps.toList hops) (rowRep_sc X zs) (by simpa [List.all_eq_true] using h1) hc
  refine ⟨.agg us'.toArray, exec_run (exec_build ho) ?_, by simp only [VRep]; exact ⟨us', rfl, k2, k3⟩⟩;unfold Instr.build;simp only [Sem.run_bind, run_zero hz, run_under hu, Result.andThen_ok, run_size he, hzs];have e2 : (ps.map fun x => match x with | (i, x) => (i, ρ x)).toList = ps.toList.map fun p => (p.1, ρ p.2) := by simp
  rw [e2, k1]
  rfl
def rowsOf (e : Nat) : Nat → List V → List (List V)
  | 0, _ => []
  | n + 1, cs => cs.take e :: rowsOf e n (cs.drop e)
theorem rowsOf_len (e : Nat) : ∀ (n : Nat) (cs : List V), (rowsOf e n cs).length = n
  | 0, cs => rfl
  | n + 1, cs => by simp [rowsOf, rowsOf_len e n]
theorem rowsOf_flat (e : Nat) : ∀ (n : Nat) (cs : List V), cs.length = n * e → (rowsOf e n cs).flatten = cs ∧ ∀ r ∈ rowsOf e n cs, r.length = e
  | 0, cs, h => by simp at h; subst h; simp [rowsOf]
  | n + 1, cs, h => by
    rw [Nat.add_mul] at h
    obtain ⟨h1, h2⟩ := rowsOf_flat e n (cs.drop e) (by simp; omega)
    refine ⟨by simp [rowsOf, h1], fun r hr => ?_⟩;simp only [rowsOf] at hr;rcases List.mem_cons.1 hr with rfl | hr
    · simp; omega
    · exact h2 r hr
theorem fl_new {n m e : Nat} {X : Ctx} {xs : List (List V)} {us : List Value} {el : TypeId} (hR : R n X) (hr : RowRep X xs.flatten us) (hl : ∀ r ∈ xs, r.length = e) (h1 : ∀ x ∈ us, oneV x = true) :
    ∃ X', X'.bx = X.bx ∧ X'.w = X.w.alloc (.cells us.toArray el (0, 0)) ∧ R n X' ∧ Ext X X' ∧ VRep X' (.fl e xs) (.slice (some ⟨X.w.heap.size, 0, none⟩) xs.length xs.length) := by
  obtain ⟨X', x1, x2, x3, x4, x5⟩ := new_frz (cells := us.toArray) (ty := el) hR
  refine ⟨X', x1, x2, x4, x5, ?_⟩;simp only [VRep];refine ⟨_, rfl, .inr ⟨_, _, rfl, rowsAt_of (RowRep.mono x5 _ _ hr) hl (fun j v hj => ?_) (fun j hj => by rw [x3]; trivial) h1⟩⟩;have hh : X'.w.heap[X.w.heap.size]? = some (.cells us.toArray el (0, 0)) := by
    rw [x2]; show (X.w.heap.push _)[X.w.heap.size]? = _; simp
  rw [Nat.zero_add, cell_some hh]; exact hj
theorem step_buildSlice {ty el : TypeId} {len e : Nat} {ps : Array (Nat × Operand)} {z : Value} {zs : List Value} {cs : List V} {xs : List (List V)} (ho : o.op = .buildSlice ty len ps) (hu : P.underlying ty = some (.slice el)) (he : (P.info? el).map (·.size) = some e)
    (hz : (P.info? el).bind (·.zero) = some z) (hzs : ((Array.range (len * e)).map (z.cells[· % z.cells.size]!)).toList = zs) (h1 : zs.all oneV = true) (hlim : len * e ≤ 2 ^ 24)
    (hc : fillV (fun i => some (i * e, e)) (zs.map V.sc) (ps.toList.map fun p => (p.1, ev t p.2)) = some cs) (hxs : rowsOf e len cs = xs) : StepOK P o t [] [] (.fl e xs) := by
  intro n X a next Q hR hop hpre hup hk
  have hops : ∀ p ∈ ps.toList, VRep X (ev t p.2) (a.eval p.2) := fun p hp => hop p.2 t_157
  obtain ⟨us', k1, k2, k3, k4⟩ := rep_fill (X := X) (place := fun i => some (i * e, e)) _ (ps.toList.map fun p => (p.1, a.eval p.2)) _ cs zs (by simp) (rowRep_ops ps.toList hops) (rowRep_sc X zs) (by simpa [List.all_eq_true] using h1) hc
  have hzl : zs.length = len * e := by rw [← hzs]; simp
  have hcl : cs.length = len * e := by rw [k2.length, k4, hzl]
  obtain ⟨f1, f2⟩ := rowsOf_flat e len cs hcl
  rw [hxs] at f1 f2
  have hxl : xs.length = len := by
    rw [← hxs]
    exact rowsOf_len e len cs
  obtain ⟨X', x1, x2, x3, x4, x5⟩ := fl_new (m := 0) (e := e) (el := el) hR (by rw [f1]; exact k2) f2 k3
  have hrun : (Instr.buildSlice ty len (ps.map fun (i, x) => (i, a.eval x))).run P X.w = .ok (.slice (some ⟨X.w.heap.size, 0, none⟩) xs.length xs.length) X'.w := by
    unfold Instr.buildSlice
    simp only [Sem.run_bind, run_under hu, Result.andThen_ok, run_size he]
    rw [if_neg (by omega)]
    have e2 : (ps.map fun x => match x with | (i, x) => (i, a.eval x)).toList = ps.toList.map fun p => (p.1, a.eval p.2) := by simp
    simp only [e2]
    have e5 : ∀ zz : Array Value, (len * e = 0 ∨ zz = z.cells) → ((Array.range (len * e)).map fun x => zz[x % zz.size]!) = zs.toArray := by
      intro zz hzz
      rw [← hzs]
      by_cases h0 : len * e = 0
      · simp [h0]
      · rcases hzz with hzz | rfl
        · exact absurd hzz h0
        · rw [Array.toArray_toList]
    by_cases h0 : len * e = 0
    · rw [if_pos h0]
      simp only [Sem.run_bind, Sem.run_pure, Result.andThen_ok, e5 #[] (.inl h0), k1]
      rw [x2, hxl]
      rfl
    · rw [if_neg h0]
      simp only [Sem.run_bind, run_zero hz, Sem.run_pure, Result.andThen_ok, e5 z.cells (.inr rfl), k1]
      rw [x2, hxl]
      rfl
  unfold Oper.wp
  rw [exec_run (exec_buildSlice ho) hrun]
  exact hk X' _ x1 x3 x4 x5
theorem run_part_one {ty : TypeId} {d : TypeDesc} {us : List Value} {off : Nat} {u : Value} {w : World} (hd : P.underlying ty = some d) (hd' : aggD d = false) (hu : us[off]? = some u) : (part ty us.toArray off).run P w = .ok u w := by
  unfold part
  simp only [Sem.run_bind, run_isAgg hd, hd', Result.andThen_ok, Bool.false_eq_true, if_false, List.getElem?_toArray, hu]
  rfl
theorem run_part_agg {ty : TypeId} {d : TypeDesc} {us : List Value} {off m : Nat} {w : World} (hd : P.underlying ty = some d) (hd' : aggD d = true) (hs : (P.info? ty).map (·.size) = some m) : (part ty us.toArray off).run P w = .ok (.agg ((us.drop off).take m).toArray) w := by
  unfold part
  simp only [Sem.run_bind, run_isAgg hd, hd', Result.andThen_ok, if_true, run_size hs]
  have : us.toArray.extract off (off + m) = ((us.drop off).take m).toArray := by simp
  rw [this]
  rfl
theorem step_index_agg {ty el : TypeId} {x y : Operand} {len : Nat} {kd : IntKind} {i : Int} {cs : List V} {v : V} (ho : o.op = .index ty x y) (hx : ev t x = .agg cs) (hy : ev t y = .sc (.int kd i)) (hu : P.underlying ty = some (.array len el)) (ht : OneT P el)
    (h0 : 0 ≤ i) (h1 : i < len) (hv : cs[i.toNat]? = some v) : StepOK P o t [] [] v := by
  refine step_value fun n X ρ hR hop hpre => ?_
  have g1 := hop x t_63
  have g2 := hop y t_63
  rw [hx] at g1; rw [hy] at g2
  simp only [VRep] at g1 g2
  obtain ⟨us, h2, h3, h4⟩ := g1
  obtain ⟨u, h5, h6⟩ := RowRep.get _ h3 hv
  obtain ⟨⟨d, hd, hd'⟩, hs⟩ := ht
  refine ⟨u, exec_run (exec_index ho) ?_, h6⟩;rw [g2, h2];simp only [Instr.index, asIntOf, Sem.run_bind, Sem.run_pure, Result.andThen_ok, run_under hu, h0, h1, and_self, if_true, run_size hs, Nat.mul_one];exact run_part_one hd hd' h5
theorem run_makeSlice {ty el : TypeId} {e : Nat} {k1 k2 : IntKind} {len : Nat} {z : Value} {i : TypeInfo} {w : World} (hu : P.underlying ty = some (.slice el)) (hi : P.info? el = some i) (hib : i.bytes ≤ 4096) (he : i.size = e) (hz : i.zero = some z) (hl : len ≤ 1073741824) :
    (Instr.makeSlice ty (.int k1 len) (.int k2 len)).run P w = .ok (.slice (some ⟨w.heap.size, 0, none⟩) len len) (w.alloc (.cells ((Array.range (len * e)).map (z.cells[· % z.cells.size]!)) el (0, 0))) := by
  have hti : ∀ w, (typeInfo el).run P w = .ok i w := fun w => by simp [typeInfo, hi]
  have hw : IntKind.i64.wrap (len : Int) = len := by unfold IntKind.wrap; simp [IntKind.signed, IntKind.bits]; omega
  have hroom : ∀ m w, (askRoom m).run P w = .ok () w := by intro m w; unfold askRoom; split <;> rfl
  have hbig : ¬ ((i.bytes : Int) * (len : Int) > 2 ^ 48) := by
    have : i.bytes * len ≤ 4096 * 1073741824 := Nat.mul_le_mul hib hl
    have h2 : ((i.bytes * len : Nat) : Int) ≤ ((4096 * 1073741824 : Nat) : Int) := Int.ofNat_le.2 this
    rw [Int.natCast_mul] at h2
    omega
  unfold Instr.makeSlice
  simp only [Sem.run_bind, run_under hu, Result.andThen_ok, asInt, asIntOf, Sem.run_pure, hti, hw]
  have hcond : ((decide ((len : Int) < 0) || decide ((i.bytes : Int) * (len : Int) > 2 ^ 48)) || decide ((len : Int) < 0) || decide ((len : Int) > (len : Int))) = false := by
    simp only [Bool.or_eq_false_iff, decide_eq_false_iff_not]
    exact ⟨⟨⟨by omega, hbig⟩, by omega⟩, by omega⟩
  simp only [hcond, Bool.false_eq_true, if_false, Sem.run_bind, hroom, Result.andThen_ok, Int.toNat_natCast]
  have hsz : ∀ w, (sizeOf el).run P w = .ok e w := fun w => run_size (by rw [hi]; simp [he]) w
  have hzz : ∀ w, (zeroValue el).run P w = .ok z w := fun w => run_zero (by rw [hi]; simp [hz]) w
  simp only [hsz, Result.andThen_ok]
  by_cases h0 : len * e = 0
  · simp only [h0, if_true, Sem.run_bind, Sem.run_pure, Result.andThen_ok, newRow, newObj]
    have e1 : ∀ f g : Nat → Value, (Array.range 0).map f = (Array.range 0).map g := fun f g => by simp
    rw [e1 _ (fun x => z.cells[x % z.cells.size]!)]
    rfl
  · simp only [h0, if_false, Sem.run_bind, hzz, Sem.run_pure, Result.andThen_ok, newRow, newObj]
    rfl
theorem zero_rows (z : Value) (e : Nat) (hz : z.cells.size = e) : ∀ len : Nat, ((Array.range (len * e)).map (z.cells[· % z.cells.size]!)).toList = (List.replicate len z.cells.toList).flatten
  | 0 => by simp
  | len + 1 => by
    have ih := zero_rows z e hz len
    rw [List.replicate_succ', List.flatten_append, ← ih]
    simp only [Array.toList_map, Array.toList_range]
    rw [show (len + 1) * e = len * e + e from t_126, List.range_add, List.map_append]
    congr 1
    simp only [List.map_map, List.flatten_cons, List.flatten_nil, List.append_nil]
    apply List.ext_getElem (by simp [hz])
    intro j h1 h2
    simp at h1
    simp only [List.getElem_map, List.getElem_range, Function.comp_def]
    have hm : (len * e + j) % z.cells.size = j := by
      rw [hz, Nat.add_comm, Nat.add_mul_mod_self_right, Nat.mod_eq_of_lt h1]
    rw [hm]
    have hj : j < z.cells.size := by omega
    simp [hj]
theorem step_make_fl {ty el : TypeId} {x y : Operand} {e len : Nat} {k1 k2 : IntKind} {z : Value} {zs : List Value} {i : TypeInfo} (ho : o.op = .makeSlice ty x y) (hx : ev t x = .sc (.int k1 len)) (hy : ev t y = .sc (.int k2 len)) (hu : P.underlying ty = some (.slice el)) (hi : P.info? el = some i) (hib : i.bytes ≤ 4096) (he : i.size = e) (hz : i.zero = some z)
    (hzs : z.cells.toList = zs) (hzl : zs.length = e) (h1 : zs.all oneV = true) (hl : len ≤ 1073741824) : StepOK P o t [] [] (.fl e (List.replicate len (zs.map V.sc))) := by
  intro n X a next Q hR hop hpre hup hk
  have g1 := hop x t_63
  have g2 := hop y t_63
  rw [hx] at g1; rw [hy] at g2
  simp only [VRep] at g1 g2
  have hzr := zero_rows z e t_117 len
  rw [hzs] at hzr
  have hrow : ∀ m, RowRep X (List.replicate m (zs.map V.sc)).flatten (List.replicate m zs).flatten := by
    intro m
    induction m with
    | zero => simp [RowRep]
    | succ m ih => simp only [List.replicate_succ, List.flatten_cons]; exact (rowRep_sc X zs).append ih
  obtain ⟨X', x1, x2, x3, x4, x5⟩ := fl_new (m := 0) (e := e) (el := el) (xs := List.replicate len (zs.map V.sc)) hR (hrow len) (fun r hr => by rw [List.eq_of_mem_replicate hr]; simp [hzl])
    (fun q hq => by
      obtain ⟨l, h2, h3⟩ := List.mem_flatten.1 hq
      rw [List.eq_of_mem_replicate h2] at h3
      simp only [List.all_eq_true] at h1
      exact h1 q h3)
  have hrun : (Instr.makeSlice ty (a.eval x) (a.eval y)).run P X.w = .ok (.slice (some ⟨X.w.heap.size, 0, none⟩) (List.replicate len (zs.map V.sc)).length (List.replicate len (zs.map V.sc)).length) X'.w := by
    rw [g1, g2, run_makeSlice hu hi hib he hz hl, x2, List.length_replicate]
    have e1 : (Array.range (len * e)).map (z.cells[· % z.cells.size]!) = (List.replicate len zs).flatten.toArray := by
      apply Array.toList_inj.1; rw [hzr]
    rw [e1]
  unfold Oper.wp
  rw [exec_run (exec_makeSlice ho) hrun]
  exact hk X' _ x1 x3 x4 x5
theorem step_make_msl {ty el : TypeId} {x y : Operand} {e len k : Nat} {k1 k2 : IntKind} {z : Value} {zs : List Value} {i : TypeInfo} (ho : o.op = .makeSlice ty x y) (hx : ev t x = .sc (.int k1 len)) (hy : ev t y = .sc (.int k2 len)) (hu : P.underlying ty = some (.slice el)) (hi : P.info? el = some i) (hib : i.bytes ≤ 4096) (he : i.size = e) (hz : i.zero = some z)
    (hzs : z.cells.toList = zs) (hzl : zs.length = e) (h1 : zs.all oneV = true) (hl : len ≤ 1073741824) : StepOK P o t [(k, .dead)] [(k, .cells (List.replicate len (zs.map V.sc)).flatten)] (.msl k 0 len len e) := by
  intro n X a next Q hR hop hpre hup hk
  have g1 := hop x t_63
  have g2 := hop y t_63
  rw [hx] at g1; rw [hy] at g2
  simp only [VRep] at g1 g2
  have hzr := zero_rows z e t_117 len
  rw [hzs] at hzr
  have hrow : ∀ m, RowRep X (List.replicate m (zs.map V.sc)).flatten (List.replicate m zs).flatten := by
    intro m
    induction m with
    | zero => simp [RowRep]
    | succ m ih => simp only [List.replicate_succ, List.flatten_cons]; exact (rowRep_sc X zs).append ih
  obtain ⟨X', x1, x2, x3, x4, x5⟩ := new_box (k := k) (ty := el) hR (hpre (k, .dead) (by simp)) (hup (k, .cells (List.replicate len (zs.map V.sc)).flatten) (by simp)) (hrow len)
    (fun q hq => by
      obtain ⟨l, h2, h3⟩ := List.mem_flatten.1 hq
      rw [List.eq_of_mem_replicate h2] at h3
      simp only [List.all_eq_true] at h1
      exact h1 q h3)
  have hrun : (Instr.makeSlice ty (a.eval x) (a.eval y)).run P X.w = .ok (.slice (some ⟨X.w.heap.size, 0, none⟩) len len) X'.w := by
    rw [g1, g2, run_makeSlice hu hi hib he hz hl, x2]
    have e1 : (Array.range (len * e)).map (z.cells[· % z.cells.size]!) = (List.replicate len zs).flatten.toArray := by
      apply Array.toList_inj.1; rw [hzr]
    rw [e1]
  unfold Oper.wp
  rw [exec_run (exec_makeSlice ho) hrun]
  refine hk X' _ x1 x4 x5 ?_;simp only [VRep];rw [x1, upd_eq, x3];exact ⟨trivial, rfl⟩
theorem gives_msl {k q len cap e : Nat} {cs : List V} {ys : List (List V)} (hl : q + len * e ≤ cs.length) (hy : rowsOf e len ((cs.drop q).take (len * e)) = ys) : Gives (.msl k q len cap e) e ys [(k, .cells cs)] := by
  intro P n X u hR hv hpre
  simp only [VRep] at hv
  obtain ⟨_, us, ty, h2, h3, h4⟩ := hR.box k cs (hpre (k, .cells cs) (by simp))
  have hcl : ((cs.drop q).take (len * e)).length = len * e := by simp; omega
  obtain ⟨f1, f2⟩ := rowsOf_flat e len _ hcl
  have f3 := rowsOf_len e len ((cs.drop q).take (len * e))
  rw [hy] at f1 f2 f3
  have hr : RowRep X ys.flatten ((us.drop q).take (len * e)) := by rw [f1]; exact (h3.drop q).take _
  have hul : us.length = cs.length := h3.length.symm
  refine ⟨fun w => by rw [hv.2, f3]; rfl, f2, _, hr, by rw [f3]; simp; omega, fun x hx => h4 x (List.mem_of_mem_drop (List.mem_of_mem_take hx)), fun d j hj => ?_⟩;rw [hv.2];rw [f3] at hj;have hje := Nat.mul_le_mul_right e hj;have htt : ((us.drop q).take (len * e)).take (j * e) = (us.drop q).take (j * e) := by rw [List.take_take, Nat.min_eq_left hje]
  rw [htt]
  have := run_loadCells_list (P := P) { X.w with drawn := d } ⟨X.bl k, q, none⟩ ((us.drop q).take (j * e)) (fun i v hi => by
    rw [addr_add]
    show X.w.cell? _ = _
    rw [cell_some h2]
    rw [List.getElem?_take] at hi
    split at hi
    · rw [List.getElem?_drop] at hi; exact hi
    · cases hi)
  have hll : ((us.drop q).take (j * e)).length = j * e := by simp; omega
  rw [hll] at this
  exact this
end
end Go.Vm
set_option linter.unusedVariables false
set_option linter.unusedSimpArgs false
namespace Go.Vm
section
variable {P : Program} {o : Oper} {t : Nat → V} {pre up : List (Nat × Box)} {val : V}
theorem RowsAt.dropped {X : Ctx} {e : Nat} : ∀ {xs : List (List V)} {b q : Nat} (i : Nat), RowsAt X e xs b q → RowsAt X e (xs.drop i) b (q + i * e)
  | [], b, q, i, h => by simp [RowsAt]
  | r :: rs, b, q, i, h => by
    cases i with
    | zero => simpa using h
    | succ i =>
      simp only [RowsAt] at h
      have := RowsAt.dropped i h.2.2
      rw [show q + (i + 1) * e = q + e + i * e from t_126]
      simpa using this
theorem RowsAt.taken {X : Ctx} {e : Nat} : ∀ {xs : List (List V)} {b q : Nat} (i : Nat), RowsAt X e xs b q → RowsAt X e (xs.take i) b q
  | [], b, q, i, h => by simp [RowsAt]
  | r :: rs, b, q, i, h => by
    cases i with
    | zero => simp [RowsAt]
    | succ i =>
      simp only [RowsAt] at h
      simp only [List.take_succ_cons, RowsAt]
      exact ⟨h.1, h.2.1, RowsAt.taken i h.2.2⟩
theorem run_bound {x : Value} {k : IntKind} {i : Int} {y : Nat} {code : BoundsCode} {w : World} (hx : x = .int k i) (h0 : 0 ≤ i) (h1 : i ≤ y) : (Instr.sliceBound x y code).run P w = .ok i.toNat w := by
  subst hx
  simp only [Instr.sliceBound, asIntOf, Sem.run_bind, Sem.run_pure, Result.andThen_ok, h0, h1, and_self, if_true]
def bndLo : Option V → Option Nat
  | none => some 0
  | some (.sc (.int _ i)) => if 0 ≤ i then some i.toNat else none
  | _ => none
def bndHi (len : Nat) : Option V → Option Nat
  | none => some len
  | some (.sc (.int _ i)) => if 0 ≤ i then some i.toNat else none
  | _ => none
theorem run_bounds {X : Ctx} {ρ : Operand → Value} {isS : Bool} {len cap l h m : Nat} {lo hi mx : Option Operand} {w : World} (hops : ∀ x, (lo = some x ∨ hi = some x ∨ mx = some x) → VRep X (ev t x) (ρ x))
    (hlo : bndLo (lo.map (ev t)) = some l) (hhi : bndHi len (hi.map (ev t)) = some h) (hmx : bndHi cap (mx.map (ev t)) = some m) (hmh : mx.isSome = true → hi.isSome = true) (hlh : l ≤ h) (hh : h ≤ m) (hm : m ≤ cap) :
    (Instr.sliceBounds isS len cap (lo.map ρ) (hi.map ρ) (mx.map ρ)).run P w = .ok (l, h, m) w := by
  have opn : ∀ (y : Option Operand) (len q : Nat), (∀ x, y = some x → VRep X (ev t x) (ρ x)) → bndHi len (y.map (ev t)) = some q → (y = none ∧ q = len) ∨ ∃ x k i, y = some x ∧ ρ x = .int k i ∧ 0 ≤ i ∧ q = i.toNat := by
    intro y len q hy hq
    cases y with
    | none => simp [bndHi] at hq; exact .inl ⟨rfl, hq.symm⟩
    | some x =>
      have hv := hy x rfl
      simp only [Option.map_some, bndHi] at hq
      split at hq
      · cases (by assumption : some _ = none)
      · rename_i k i hx
        simp at hx
        split at hq
        · rename_i h0
          rw [hx] at hv
          simp only [VRep] at hv
          exact .inr ⟨x, k, i, rfl, hv, h0, by simpa using hq.symm⟩
        · cases hq
      · cases hq
  have hlo' : bndHi 0 (lo.map (ev t)) = some l := by
    rw [← hlo]
    cases lo with
    | none => rfl
    | some x => simp only [Option.map_some, bndLo, bndHi]
  rcases opn mx cap m (fun x hx => hops x (.inr (.inr hx))) hmx with ⟨rfl, rfl⟩ | ⟨xm, km, im, rfl, hxm, him, rfl⟩
  · rcases opn hi len h (fun x hx => hops x (.inr (.inl hx))) hhi with ⟨rfl, rfl⟩ | ⟨xh, kh, ih, rfl, hxh, hih, rfl⟩
    · rcases opn lo 0 l (fun x hx => hops x (.inl hx)) hlo' with ⟨rfl, rfl⟩ | ⟨xl, kl, il, rfl, hxl, hil, rfl⟩
      · rfl
      · simp only [Instr.sliceBounds, Option.map_none, Option.map_some, Sem.run_bind, Sem.run_pure, Result.andThen_ok, run_bound hxl hil (show il ≤ (h : Int) by omega)]
    · rcases opn lo 0 l (fun x hx => hops x (.inl hx)) hlo' with ⟨rfl, rfl⟩ | ⟨xl, kl, il, rfl, hxl, hil, rfl⟩
      · simp only [Instr.sliceBounds, Option.map_none, Option.map_some, Sem.run_bind, Sem.run_pure, Result.andThen_ok, run_bound hxh hih (show ih ≤ (m : Int) by omega)]
      · simp only [Instr.sliceBounds, Option.map_none, Option.map_some, Sem.run_bind, Sem.run_pure, Result.andThen_ok, run_bound hxh hih (show ih ≤ (m : Int) by omega), run_bound hxl hil (show il ≤ (ih.toNat : Int) by omega)]
  · rcases opn hi len h (fun x hx => hops x (.inr (.inl hx))) hhi with ⟨rfl, rfl⟩ | ⟨xh, kh, ih, rfl, hxh, hih, rfl⟩
    · simp at hmh
    · rcases opn lo 0 l (fun x hx => hops x (.inl hx)) hlo' with ⟨rfl, rfl⟩ | ⟨xl, kl, il, rfl, hxl, hil, rfl⟩
      · simp only [Instr.sliceBounds, Option.map_none, Option.map_some, Sem.run_bind, Sem.run_pure, Result.andThen_ok, run_bound hxm him (show im ≤ (cap : Int) by omega), run_bound hxh hih (show ih ≤ (im.toNat : Int) by omega)]
      · simp only [Instr.sliceBounds, Option.map_none, Option.map_some, Sem.run_bind, Sem.run_pure, Result.andThen_ok, run_bound hxm him (show im ≤ (cap : Int) by omega), run_bound hxh hih (show ih ≤ (im.toNat : Int) by omega), run_bound hxl hil (show il ≤ (ih.toNat : Int) by omega)]
theorem slice_ops {ty : TypeId} {x : Operand} {lo hi mx : Option Operand} {X : Ctx} {ρ : Operand → Value} (ho : o.op = .slice ty x lo hi mx) (hop : ∀ x ∈ o.op.operands, VRep X (ev t x) (ρ x)) : VRep X (ev t x) (ρ x) ∧ ∀ y, (lo = some y ∨ hi = some y ∨ mx = some y) → VRep X (ev t y) (ρ y) := by
  refine ⟨hop x t_63, fun y hy => hop y ?_⟩;rcases hy with rfl | rfl | rfl <;> simp [ho, Op.operands]
theorem step_slice {ty el : TypeId} {x : Operand} {lo hi : Option Operand} {e l h : Nat} {v : V} {xs ys : List (List V)} (ho : o.op = .slice ty x lo hi none) (hx : ev t x = v) (hv : IsSl v e xs) (hu : P.underlying ty = some (.slice el)) (he : (P.info? el).map (·.size) = some e)
    (hlo : bndLo (lo.map (ev t)) = some l) (hhi : bndHi xs.length (hi.map (ev t)) = some h) (hlh : l ≤ h) (hh : h ≤ xs.length) (hy : (xs.take h).drop l = ys) : StepOK P o t [] [] (.sl e ys) := by
  refine step_value fun n X ρ hR hop hpre => ?_
  obtain ⟨h1, h2⟩ := slice_ops ho hop
  rw [hx] at h1
  obtain ⟨a, c, g1, g2, g3⟩ := hv.rep h1
  refine ⟨.slice (if c = l then a else a.map (·.add (l * e))) (h - l) (c - l), exec_run (exec_slice ho) ?_, ?_⟩
  · rw [g1]
    unfold Instr.sliceAt
    simp only [Sem.run_bind, run_under hu, Result.andThen_ok, Instr.slice]
    rw [run_bounds (X := X) (m := c) h2 hlo hhi rfl (by simp) hlh (by omega) (Nat.le_refl _)]
    simp only [Result.andThen_ok, run_size he]
    rfl
  · simp only [VRep]
    have hyl : ys.length = h - l := by rw [← hy]; simp; omega
    refine ⟨_, c - l, by rw [hyl], by omega, ?_⟩
    by_cases hlh' : h - l = 0
    · exact .inl (List.length_eq_zero_iff.1 (by omega))
    · rcases g3 with rfl | ⟨b, q, rfl, g4⟩
      · simp at hh; omega
      · refine .inr ⟨b, q + l * e, ?_, hy ▸ (g4.taken h).dropped l⟩
        rw [if_neg (by omega)]
        simp [addr_add]
theorem step_slice_full {ty el : TypeId} {x : Operand} {lo hi mx : Option Operand} {e l h : Nat} {v : V} {xs ys : List (List V)} (ho : o.op = .slice ty x lo hi mx) (hx : ev t x = v) (hv : IsSl v e xs) (hu : P.underlying ty = some (.slice el)) (he : (P.info? el).map (·.size) = some e)
    (hlo : bndLo (lo.map (ev t)) = some l) (hhi : bndHi xs.length (hi.map (ev t)) = some h) (hmx : ∀ c, bndHi c (mx.map (ev t)) = some h) (hmh : mx.isSome = true → hi.isSome = true) (hlh : l ≤ h) (hh : h ≤ xs.length) (hy : (xs.take h).drop l = ys) : StepOK P o t [] [] (.fl e ys) := by
  refine step_value fun n X ρ hR hop hpre => ?_
  obtain ⟨h1, h2⟩ := slice_ops ho hop
  rw [hx] at h1
  obtain ⟨a, c, g1, g2, g3⟩ := hv.rep h1
  refine ⟨.slice (if h = l then a else a.map (·.add (l * e))) (h - l) (h - l), exec_run (exec_slice ho) ?_, ?_⟩
  · rw [g1]
    unfold Instr.sliceAt
    simp only [Sem.run_bind, run_under hu, Result.andThen_ok, Instr.slice]
    rw [run_bounds (X := X) (m := h) h2 hlo hhi (hmx c) hmh hlh (Nat.le_refl _) (by omega)]
    simp only [Result.andThen_ok, run_size he]
    rfl
  · simp only [VRep]
    have hyl : ys.length = h - l := by rw [← hy]; simp; omega
    refine ⟨_, by rw [hyl], ?_⟩
    by_cases hlh' : h - l = 0
    · exact .inl (List.length_eq_zero_iff.1 (by omega))
    · rcases g3 with rfl | ⟨b, q, rfl, g4⟩
      · simp at hh; omega
      · refine .inr ⟨b, q + l * e, ?_, hy ▸ (g4.taken h).dropped l⟩
        rw [if_neg (by omega)]
        simp [addr_add]
theorem step_slice_msl {ty el : TypeId} {x : Operand} {lo hi mx : Option Operand} {e k q len cap l h m : Nat} (ho : o.op = .slice ty x lo hi mx) (hx : ev t x = .msl k q len cap e) (hu : P.underlying ty = some (.slice el)) (he : (P.info? el).map (·.size) = some e)
    (hlo : bndLo (lo.map (ev t)) = some l) (hhi : bndHi len (hi.map (ev t)) = some h) (hmx : bndHi cap (mx.map (ev t)) = some m) (hmh : mx.isSome = true → hi.isSome = true) (hlh : l ≤ h) (hh : h ≤ m) (hm : m ≤ cap) : StepOK P o t [] [] (.msl k (if m = l then q else q + l * e) (h - l) (m - l) e) := by
  refine step_value fun n X ρ hR hop hpre => ?_
  obtain ⟨h1, h2⟩ := slice_ops ho hop
  rw [hx] at h1
  simp only [VRep] at h1
  refine ⟨_, exec_run (exec_slice ho) (u := .slice (some ⟨X.bl k, if m = l then q else q + l * e, none⟩) (h - l) (m - l)) ?_, by simp only [VRep]; exact ⟨h1.1, trivial⟩⟩;rw [h1.2];unfold Instr.sliceAt;simp only [Sem.run_bind, run_under hu, Result.andThen_ok, Instr.slice];rw [run_bounds (X := X) h2 hlo hhi hmx hmh hlh hh hm];simp only [Result.andThen_ok, run_size he]
  by_cases hml : m = l
  · simp [hml]
  · simp [hml, addr_add]
theorem step_slice_arr {ty el : TypeId} {x : Operand} {lo hi mx : Option Operand} {e k q len l h m : Nat} (ho : o.op = .slice ty x lo hi mx) (hx : ev t x = .ref k q) (hu : P.underlying ty = some (.array len el)) (he : (P.info? el).map (·.size) = some e)
    (hlo : bndLo (lo.map (ev t)) = some l) (hhi : bndHi len (hi.map (ev t)) = some h) (hmx : bndHi len (mx.map (ev t)) = some m) (hmh : mx.isSome = true → hi.isSome = true) (hlh : l ≤ h) (hh : h ≤ m) (hm : m ≤ len) : StepOK P o t [] [] (.msl k (if m = l then q else q + l * e) (h - l) (m - l) e) := by
  refine step_value fun n X ρ hR hop hpre => ?_
  obtain ⟨h1, h2⟩ := slice_ops ho hop
  rw [hx] at h1
  simp only [VRep] at h1
  refine ⟨_, exec_run (exec_slice ho) (u := .slice (some ⟨X.bl k, if m = l then q else q + l * e, none⟩) (h - l) (m - l)) ?_, by simp only [VRep]; exact ⟨h1.1, trivial⟩⟩;rw [h1.2];unfold Instr.sliceAt;simp only [Sem.run_bind, run_under hu, Result.andThen_ok, Instr.sureAddr, Sem.run_pure];rw [run_bounds (X := X) h2 hlo hhi hmx hmh hlh hh hm];simp only [Result.andThen_ok, run_size he]
  by_cases hml : m = l
  · simp [hml]
  · simp [hml, addr_add]
theorem flat_take {e : Nat} : ∀ (ys : List (List V)) (m : Nat), (∀ r ∈ ys, r.length = e) → (ys.take m).flatten = ys.flatten.take (m * e)
  | [], m, h => by simp
  | r :: rs, m, h => by
    cases m with
    | zero => simp
    | succ m =>
      have hr := h r (List.mem_cons_self ..)
      rw [List.take_succ_cons, List.flatten_cons, List.flatten_cons, flat_take rs m (fun r' hr' => h r' (List.mem_cons_of_mem _ hr'))]
      rw [List.take_append, hr, show (m + 1) * e - e = m * e from t_126, List.take_of_length_le (l := r) (by rw [hr, Nat.add_mul]; omega)]
theorem step_copy {ty el : TypeId} {tys : Array TypeId} {x y : Operand} {e k q len cap m : Nat} {cs cs' : List V} {vy : V} {ys : List (List V)} (ho : o.op = .call { callee := .builtin .copy, args := #[x, y], argTypes := tys }) (h0 : tys[0]? = some ty) (hu : P.underlying ty = some (.slice el)) (he : (P.info? el).map (·.size) = some e)
    (hx : ev t x = .msl k q len cap e) (hy : ev t y = vy) (hvy : Gives vy e ys pre) (hm : min ys.length len = m) (hl : q + len * e ≤ cs.length) (hcs : setSeg cs q (ys.take m).flatten = cs') :
    StepOK P o t ((k, .cells cs) :: pre) [(k, .cells cs')] (.sc (.int .i64 m)) := by
  intro n X a next Q hR hop hpre hup hk
  have g1 := hop x t_82
  have g2 := hop y t_82
  rw [hx] at g1; rw [hy] at g2
  simp only [VRep] at g1
  have hb : X.bx k = .cells cs := hpre (k, .cells cs) (by simp)
  obtain ⟨l1, l2, new, l3, l4, l5, l6⟩ := hvy P n X _ hR g2 (fun p hp => hpre p (List.mem_cons_of_mem _ hp))
  obtain ⟨us, ty', h3, h4, h5⟩ := (hR.box k cs hb).2
  have hcl : us.length = cs.length := h4.length.symm
  have hmy : m ≤ ys.length := by omega
  have hml : m ≤ len := by omega
  have hme := Nat.mul_le_mul_right e hmy
  have hle := Nat.mul_le_mul_right e hml
  have hnl : (new.take (m * e)).length = m * e := by rw [List.length_take, l4]; omega
  obtain ⟨w', r1, r2, r3, r4, r5, r6, r7⟩ := run_storeCells (P := P) (b := X.bl k) (new.take (m * e)) q 0 X.w us ty' h3 (by omega) (fun x hx => l5 x (List.mem_of_mem_take hx))
  have hft : (ys.take m).flatten = ys.flatten.take (m * e) := flat_take ys m l2
  have hfl : (ys.take m).flatten.length = m * e := by rw [hft, List.length_take, l3.length, l4]; omega
  have hex : execOp a.eval o = (do pure (.value (← Builtin.copy_ tys o.type #[a.eval x, a.eval y]))) := by
    rw [exec_builtin ho]
    have e1 : (#[x, y].map a.eval : Array Value) = #[a.eval x, a.eval y] := by simp
    rw [e1]; rfl
  have hrun : (Builtin.copy_ tys o.type #[a.eval x, a.eval y]).run P X.w = .ok (.int .i64 m) w' := by
    have h6 := l6 X.w.drawn m hmy
    have hmin : Nat.min ys.length len = m := hm
    unfold Builtin.copy_
    simp only [h0, List.getElem?_toArray, List.getElem?_cons_zero, List.getElem?_cons_succ, Sem.run_bind, run_under hu, Result.andThen_ok, g1.2, l1, run_size he, hmin]
    have h6' : (Builtin.firstCells e m (a.eval y)).run P X.w = .ok (new.take (m * e)).toArray X.w := h6
    simp only [h6', Result.andThen_ok, r1, Sem.run_bind]
    rfl
  have hnew : RowRep X cs' (us.take q ++ new.take (m * e) ++ us.drop (q + (new.take (m * e)).length)) := by
    rw [← hcs]
    unfold setSeg
    rw [hfl, hnl, hft]
    exact ((h4.take q).append (l3.take _)).append (h4.drop _)
  have hone : ∀ x ∈ us.take q ++ new.take (m * e) ++ us.drop (q + (new.take (m * e)).length), oneV x = true := by
    intro x hx
    rcases List.mem_append.1 hx with hx | hx
    · rcases List.mem_append.1 hx with hx | hx
      · exact h5 x (List.mem_of_mem_take hx)
      · exact l5 x (List.mem_of_mem_take hx)
    · exact h5 x (List.mem_of_mem_drop hx)
  obtain ⟨e1, e2⟩ := set_box (w' := w') hR hb r2 r3 r4 r5 r6 ⟨ty', r7⟩ hnew hone
  unfold Oper.wp
  rw [exec_run hex hrun]
  exact hk _ _ rfl e1 e2 (by simp [VRep])
def eqC : Value → Value → Bool
  | .int _ a, .int _ b => a == b
  | .bool a, .bool b => a == b
  | .string a, .string b => a == b
  | _, _ => false
def eqCs : List Value → List Value → Bool
  | [], [] => true
  | a :: as, b :: bs => eqC a b && eqCs as bs
  | _, _ => false
inductive CK where
  | i (k : IntKind)
  | b
  | s
  deriving DecidableEq
def CK.fits : CK → Value → Bool
  | .i k, .int k' _ => k == k'
  | .b, .bool _ => true
  | .s, .string _ => true
  | _, _ => false
def fitsL : List CK → List Value → Bool
  | [], [] => true
  | c :: cs, v :: vs => c.fits v && fitsL cs vs
  | _, _ => false
def shapeFok (P : Program) (off : Nat) (fd : Field) (sh : List CK) : Bool := (fd.offset == off) && (fd.name != "_" && ((P.cellsOf fd.type == sh.length) && ((P.info? fd.type).isSome && !(sh.length == 0))))
def shapeF (P : Program) (f : TypeId → Option (List CK)) : Nat → List Field → Option (List CK)
  | _, [] => some []
  | off, fd :: fs => match f fd.type with
    | some sh => match shapeFok P off fd sh with
      | true => (shapeF P f (off + sh.length) fs).map (sh ++ ·)
      | false => none
    | none => none
def shapeAok (P : Program) (e : TypeId) (sh : List CK) : Bool := (P.cellsOf e == sh.length) && ((P.info? e).isSome && !(sh.length == 0))
def shapeOf (P : Program) : Nat → TypeId → Option (List CK)
  | 0, _ => none
  | d + 1, t =>
    match P.underlying t with
    | some (.int k) => some [.i k]
    | some .bool => some [.b]
    | some .string => some [.s]
    | some (.array n e) => match shapeOf P d e with
      | some sh => match shapeAok P e sh with
        | true => some (List.replicate n sh).flatten
        | false => none
      | none => none
    | some (.struct fs) => match P.stoodInHeld t with
      | false => shapeF P (shapeOf P d) 0 fs.toList
      | true => none
    | _ => none
end
section
variable {P : Program} {o : Oper} {t : Nat → V} {pre up : List (Nat × Box)} {val : V}
def valOf (P : Program) (t : TypeId) (xs : List Value) : Value :=
  match P.underlying t with
  | some (.array _ _) | some (.struct _) => .agg xs.toArray
  | _ => xs.headD undef
theorem fitsL_len : ∀ {sh : List CK} {xs : List Value}, fitsL sh xs = true → xs.length = sh.length
  | [], [], h => rfl
  | [], _ :: _, h => by simp [fitsL] at h
  | _ :: _, [], h => by simp [fitsL] at h
  | c :: cs, x :: xs, h => by simp only [fitsL, Bool.and_eq_true] at h; simp [fitsL_len h.2]
theorem fitsL_append : ∀ {s1 s2 : List CK} {xs : List Value}, fitsL (s1 ++ s2) xs = true → fitsL s1 (xs.take s1.length) = true ∧ fitsL s2 (xs.drop s1.length) = true
  | [], s2, xs, h => by simpa [fitsL] using h
  | c :: s1, s2, [], h => by simp [fitsL] at h
  | c :: s1, s2, x :: xs, h => by
    simp only [List.cons_append, fitsL, Bool.and_eq_true] at h
    obtain ⟨h1, h2⟩ := fitsL_append h.2
    simp [fitsL, h.1, h1, h2]
theorem eqCs_append : ∀ (a b c d : List Value), a.length = b.length → eqCs (a ++ c) (b ++ d) = (eqCs a b && eqCs c d)
  | [], [], c, d, h => by simp [eqCs]
  | [], _ :: _, c, d, h => by simp at h
  | _ :: _, [], c, d, h => by simp at h
  | x :: a, y :: b, c, d, h => by simp only [List.cons_append, eqCs]; rw [eqCs_append a b c d t_123, Bool.and_assoc]
theorem fits_one {c : CK} {xs : List Value} (h : fitsL [c] xs = true) : ∃ x, xs = [x] ∧ c.fits x = true := by
  match xs, h with
  | [x], h => exact ⟨x, rfl, by simpa [fitsL] using h⟩
  | [], h => simp [fitsL] at h
  | x :: y :: xs, h => simp [fitsL] at h
theorem fits_i {k : IntKind} {v : Value} (h : (CK.i k).fits v = true) : ∃ n, v = .int k n := by
  cases v with
  | int k' n => have : k = k' := by simpa [CK.fits] using h
                subst this; exact ⟨n, rfl⟩
  | _ => cases h
theorem fits_b {v : Value} (h : CK.b.fits v = true) : ∃ b, v = .bool b := by cases v <;> first | exact ⟨_, rfl⟩ | cases h
theorem fits_s {v : Value} (h : CK.s.fits v = true) : ∃ b, v = .string b := by cases v <;> first | exact ⟨_, rfl⟩ | cases h
theorem shape_one {d : Nat} {e : TypeId} {sh : List CK} (h : shapeOf P d e = some sh) : ∃ k, P.underlying e = some k ∧ (aggD k = false → sh.length = 1) := by
  cases d with
  | zero => simp [shapeOf] at h
  | succ d =>
    unfold shapeOf at h
    split at h
    · rename_i k hu; cases h; exact ⟨_, hu, fun _ => rfl⟩
    · rename_i hu; cases h; exact ⟨_, hu, fun _ => rfl⟩
    · rename_i hu; cases h; exact ⟨_, hu, fun _ => rfl⟩
    · rename_i n e' hu; exact ⟨_, hu, fun h => by simp [aggD] at h⟩
    · rename_i fs hu; exact ⟨_, hu, fun h => by simp [aggD] at h⟩
    · cases h
theorem run_part_val {e : TypeId} {us : List Value} {off d : Nat} {sh : List CK} {w : World} (hse : shapeOf P d e = some sh) (hi : (P.info? e).isSome = true) (hc : P.cellsOf e = sh.length) (hl : off + sh.length ≤ us.length) :
    (part e us.toArray off).run P w = .ok (valOf P e ((us.drop off).take sh.length)) w := by
  obtain ⟨d, hd, hm⟩ := shape_one hse
  have hs : (P.info? e).map (·.size) = some sh.length := by
    unfold Program.cellsOf at hc
    cases h : P.info? e with
    | none => simp [h] at hi
    | some i => simp [h] at hc ⊢; exact hc
  by_cases ha : aggD d = true
  · rw [run_part_agg hd ha hs]
    unfold valOf
    rw [hd]
    cases d <;> first | rfl | (simp [aggD] at ha; done)
  · have ha' : aggD d = false := by simpa using ha
    have hm1 := hm ha'
    rw [hm1] at hl ⊢
    have hu : us[off]? = some us[off] := List.getElem?_eq_getElem (by omega)
    rw [run_part_one hd ha' hu]
    unfold valOf
    rw [hd]
    have : ((us.drop off).take 1).headD undef = us[off] := by
      rw [List.drop_eq_getElem_cons (by omega)]; rfl
    cases d <;> first | (simp [aggD] at ha'; done) | (rw [this])
theorem run_items {d D : Nat} {e : TypeId} {she : List CK} (hz : she.length ≠ 0) (hse : shapeOf P d e = some she) (hc : P.cellsOf e = she.length) (hi : (P.info? e).isSome = true)
    (ih : ∀ (xs ys : List Value), fitsL she xs = true → fitsL she ys = true → ∀ w, (Op.equalIn (D + d) e (valOf P e xs) (valOf P e ys)).run P w = .ok (eqCs xs ys) w) (w : World) (xs ys : List Value) :
    ∀ (m i : Nat), fitsL (List.replicate m she).flatten (xs.drop (i * she.length)) = true → fitsL (List.replicate m she).flatten (ys.drop (i * she.length)) = true →
      (Op.eqItems (D + d) e (P.cellsOf e) xs.toArray ys.toArray (List.range' i m)).run P w = .ok (eqCs (xs.drop (i * she.length)) (ys.drop (i * she.length))) w
  | 0, i, hx, hy => by
    have h1 := fitsL_len hx
    have h2 := fitsL_len hy
    simp only [List.replicate_zero, List.flatten_nil, List.length_nil] at h1 h2
    rw [List.length_eq_zero_iff.1 h1, List.length_eq_zero_iff.1 h2]
    rfl
  | m + 1, i, hx, hy => by
    rw [List.replicate_succ, List.flatten_cons] at hx hy
    have l1 := fitsL_len hx
    have l2 := fitsL_len hy
    simp only [List.length_append, List.length_drop] at l1 l2
    obtain ⟨hx1, hx2⟩ := fitsL_append hx
    obtain ⟨hy1, hy2⟩ := fitsL_append hy
    rw [List.drop_drop] at hx2 hy2
    have e1 : i * she.length + she.length = (i + 1) * she.length := t_126
    rw [e1] at hx2 hy2
    have ih2 := run_items hz hse hc hi ih w xs ys m (i + 1) hx2 hy2
    rw [List.range'_succ]
    simp only [Op.eqItems, Sem.run_bind]
    rw [hc]
    · rw [run_part_val hse hi hc (by omega)]
      simp only [Result.andThen_ok]
      rw [run_part_val hse hi hc (by omega)]
      simp only [Result.andThen_ok, ih _ _ hx1 hy1]
      have hsplit : eqCs (xs.drop (i * she.length)) (ys.drop (i * she.length)) = (eqCs ((xs.drop (i * she.length)).take she.length) ((ys.drop (i * she.length)).take she.length) && eqCs (xs.drop ((i + 1) * she.length)) (ys.drop ((i + 1) * she.length))) := by
        rw [← e1, ← List.drop_drop, ← List.drop_drop, ← eqCs_append _ _ _ _ (by simp; omega), List.take_append_drop, List.take_append_drop]
      rw [hsplit]
      cases hq : eqCs ((xs.drop (i * she.length)).take she.length) ((ys.drop (i * she.length)).take she.length)
      · rfl
      · simp only [Bool.not_true, Bool.false_eq_true, if_false, Bool.true_and]
        rw [← hc] at ih2 ⊢
        exact ih2
theorem run_fields {d D : Nat} (w : World) (xs ys : List Value)
    (ih : ∀ (e : TypeId) (sh : List CK) (xs ys : List Value), shapeOf P d e = some sh → fitsL sh xs = true → fitsL sh ys = true → ∀ w, (Op.equalIn (D + d) e (valOf P e xs) (valOf P e ys)).run P w = .ok (eqCs xs ys) w) :
    ∀ (fs : List Field) (off : Nat) (sh : List CK), shapeF P (shapeOf P d) off fs = some sh → fitsL sh (xs.drop off) = true → fitsL sh (ys.drop off) = true →
      (Op.eqFields (D + d) xs.toArray ys.toArray fs).run P w = .ok (eqCs (xs.drop off) (ys.drop off)) w
  | [], off, sh, h, hx, hy => by
    simp [shapeF] at h; subst h
    have h1 := fitsL_len hx
    have h2 := fitsL_len hy
    rw [List.length_eq_zero_iff.1 h1, List.length_eq_zero_iff.1 h2]
    rfl
  | f :: fs, off, sh, h, hx, hy => by
    unfold shapeF at h
    split at h
    · rename_i s1 hs1
      split at h
      · rename_i hc
        obtain ⟨ho, hn, hcl, hi, hz⟩ : f.offset = off ∧ f.name ≠ "_" ∧ P.cellsOf f.type = s1.length ∧ (P.info? f.type).isSome = true ∧ s1.length ≠ 0 := by simpa [shapeFok] using hc
        cases hr : shapeF P (shapeOf P d) (off + s1.length) fs with
        | none => simp [hr] at h
        | some s2 =>
          simp [hr] at h
          subst h
          have l1 := fitsL_len hx
          have l2 := fitsL_len hy
          simp only [List.length_append, List.length_drop] at l1 l2
          obtain ⟨hx1, hx2⟩ := fitsL_append hx
          obtain ⟨hy1, hy2⟩ := fitsL_append hy
          rw [List.drop_drop] at hx2 hy2
          have ih2 := run_fields w xs ys ih fs (off + s1.length) s2 hr hx2 hy2
          simp only [Op.eqFields, hn, ne_eq, not_false_eq_true, if_true, Sem.run_bind]
          · rw [ho, run_part_val hs1 hi hcl (by omega)]
            simp only [Result.andThen_ok]
            rw [run_part_val hs1 hi hcl (by omega)]
            simp only [Result.andThen_ok, ih f.type s1 _ _ hs1 hx1 hy1]
            have hsplit : eqCs (xs.drop off) (ys.drop off) = (eqCs ((xs.drop off).take s1.length) ((ys.drop off).take s1.length) && eqCs (xs.drop (off + s1.length)) (ys.drop (off + s1.length))) := by
              rw [← List.drop_drop, ← List.drop_drop, ← eqCs_append _ _ _ _ (by simp; omega), List.take_append_drop, List.take_append_drop]
            rw [hsplit]
            cases hq : eqCs ((xs.drop off).take s1.length) ((ys.drop off).take s1.length)
            · rfl
            · simp only [Bool.not_true, Bool.false_eq_true, if_false, Bool.true_and]
              exact ih2
      · cases h
    · cases h
theorem eq_shape : ∀ (d : Nat) (t : TypeId) (sh : List CK) (xs ys : List Value), shapeOf P d t = some sh → fitsL sh xs = true → fitsL sh ys = true → ∀ D w, (Op.equalIn (D + d) t (valOf P t xs) (valOf P t ys)).run P w = .ok (eqCs xs ys) w
  | 0, t, sh, xs, ys, h, hx, hy => by simp [shapeOf] at h
  | d + 1, t, sh, xs, ys, h, hx, hy => by
    intro D w
    rw [← Nat.add_assoc]
    unfold shapeOf at h
    split at h
    · rename_i k hu
      cases h
      obtain ⟨x, rfl, hx'⟩ := fits_one hx
      obtain ⟨y, rfl, hy'⟩ := fits_one hy
      obtain ⟨x, rfl⟩ := fits_i hx'
      obtain ⟨y, rfl⟩ := fits_i hy'
      simp only [valOf, hu, List.headD_cons, eqCs, eqC, Bool.and_true]
      exact run_equalIn_int w (D + d) t _ _ _ _ hu
    · rename_i hu
      cases h
      obtain ⟨x, rfl, hx'⟩ := fits_one hx
      obtain ⟨y, rfl, hy'⟩ := fits_one hy
      obtain ⟨x, rfl⟩ := fits_b hx'
      obtain ⟨y, rfl⟩ := fits_b hy'
      simp only [valOf, hu, List.headD_cons, eqCs, eqC, Bool.and_true]
      exact run_equalIn_bool' w (D + d) t _ _ hu
    · rename_i hu
      cases h
      obtain ⟨x, rfl, hx'⟩ := fits_one hx
      obtain ⟨y, rfl, hy'⟩ := fits_one hy
      obtain ⟨x, rfl⟩ := fits_s hx'
      obtain ⟨y, rfl⟩ := fits_s hy'
      simp only [valOf, hu, List.headD_cons, eqCs, eqC, Bool.and_true]
      rw [run_equalIn_string w (D + d) t _ _ hu, beq_toListBytes]
    · rename_i n e hu
      split at h
      · rename_i she hse
        split at h
        · rename_i hc
          cases h
          have hc : P.cellsOf e = she.length ∧ (P.info? e).isSome = true ∧ she.length ≠ 0 := by simpa [shapeAok] using hc
          cases hie : P.info? e with
          | none => simp [hie] at hc
          | some i =>
          have hv : ∀ zs, valOf P t zs = .agg zs.toArray := fun zs => by unfold valOf; rw [hu]
          rw [hv, hv, run_equalIn_array w (D + d) xs.toArray ys.toArray hu hie, List.range_eq_range']
          have := run_items hc.2.2 hse hc.1 hc.2.1 (fun xs ys h1 h2 w => eq_shape d e she xs ys hse h1 h2 D w) w xs ys n 0 (by simpa using hx) (by simpa using hy)
          simpa using this
        · cases h
      · cases h
    · rename_i fs hu
      split at h
      · rename_i hs
        have hv : ∀ zs, valOf P t zs = .agg zs.toArray := fun zs => by unfold valOf; rw [hu]
        have hfs : P.fieldsOf t = fs := by simp [Program.fieldsOf, hu]
        rw [hv, hv, run_equalIn_struct w (D + d) t xs.toArray ys.toArray (by rw [hfs]; exact hu) hs, hfs]
        have := run_fields w xs ys (fun e sh xs ys h0 h1 h2 w => eq_shape d e sh xs ys h0 h1 h2 D w) fs.toList 0 sh h (by simpa using hx) (by simpa using hy)
        simpa using this
      · cases h
    · cases h
theorem rowRep_sc_inv {X : Ctx} : ∀ {zs us : List Value}, RowRep X (zs.map V.sc) us → us = zs
  | [], us, h => by simpa [RowRep] using h
  | z :: zs, us, h => by
    simp only [List.map_cons, RowRep] at h
    obtain ⟨u, us', rfl, h2, h3⟩ := h
    simp only [VRep] at h2
    rw [h2, rowRep_sc_inv h3]
theorem step_eq_agg {op : BinOp} {ty ty2 : TypeId} {x y : Operand} {xs ys : List Value} {b : Bool} {d : Nat} {sh : List CK} (ho : o.op = .binOp op ty x y ty2) (hx : ev t x = .agg (xs.map V.sc)) (hy : ev t y = .agg (ys.map V.sc))
    (hsh : shapeOf P d ty = some sh) (hd : d ≤ 10000) (hag : ∃ k, P.underlying ty = some k ∧ aggD k = true) (hg : P.eqGuardType P.depth ty = false) (fx : fitsL sh xs = true) (fy : fitsL sh ys = true) (hb : (op = .eql ∧ b = eqCs xs ys) ∨ (op = .neq ∧ b = !eqCs xs ys)) : StepOK P o t [] [] (.sc (.bool b)) := by
  refine step_value fun n X ρ hR hop hpre => ?_
  have g1 := hop x t_63
  have g2 := hop y t_63
  rw [hx] at g1; rw [hy] at g2
  simp only [VRep] at g1 g2
  obtain ⟨us, h1, h2, _⟩ := g1
  obtain ⟨us2, h3, h4, _⟩ := g2
  rw [rowRep_sc_inv h2] at h1
  rw [rowRep_sc_inv h4] at h3
  obtain ⟨k, hk, hka⟩ := hag
  have hv : ∀ zs, valOf P ty zs = .agg zs.toArray := fun zs => by unfold valOf; rw [hk]; cases k <;> first | rfl | (simp [aggD] at hka; done)
  have heq := eq_shape d ty sh xs ys hsh fx fy (10000 - d) X.w
  rw [show 10000 - d + d = 10000 by omega, hv, hv] at heq
  have hprog : ∀ w, (program).run P w = .ok P w := fun w => rfl
  refine ⟨.bool b, exec_run (exec_binOp ho) ?_, by simp only [VRep]⟩;rw [h1, h3];rcases hb with ⟨rfl, rfl⟩ | ⟨rfl, rfl⟩
  · have e1 : (eqGuard .eql ty x y (.agg xs.toArray) (.agg ys.toArray)).run P X.w = .ok () X.w := by
      simp only [eqGuard, Bool.not_true, Bool.false_eq_true, if_false, Sem.run_bind, hprog, Result.andThen_ok, hg, Bool.not_false, if_true]; rfl
    have e2 : (binOp .eql ty (.agg xs.toArray) (.agg ys.toArray)) = (do pure (.bool (← Op.equal ty (.agg xs.toArray) (.agg ys.toArray)))) := rfl
    rw [Sem.run_bind, e1, e2]
    simp only [Result.andThen_ok, Sem.run_bind, Op.equal, Op.maxDepth, heq]
    rfl
  · have e1 : (eqGuard .neq ty x y (.agg xs.toArray) (.agg ys.toArray)).run P X.w = .ok () X.w := by
      simp only [eqGuard, Bool.not_true, Bool.false_eq_true, if_false, Sem.run_bind, hprog, Result.andThen_ok, hg, Bool.not_false, if_true]; rfl
    have e2 : (binOp .neq ty (.agg xs.toArray) (.agg ys.toArray)) = (do pure (.bool (!(← Op.equal ty (.agg xs.toArray) (.agg ys.toArray))))) := rfl
    rw [Sem.run_bind, e1, e2]
    simp only [Result.andThen_ok, Sem.run_bind, Op.equal, Op.maxDepth, heq]
    rfl
theorem step_eq_nil {op : BinOp} {ty ty2 el : TypeId} {x y : Operand} {v : V} {b : Bool} (ho : o.op = .binOp op ty x y ty2) (hx : ev t x = v) (hy : ev t y = .sc (.pointer none)) (hu : P.underlying ty = some (.pointer el))
    (hb : ∃ q, (((∃ k j, v = .ref k j) ∨ ∃ row, v = .ro row) ∧ q = false ∨ v = .sc (.pointer none) ∧ q = true) ∧ ((op = .eql ∧ b = q) ∨ (op = .neq ∧ b = !q))) : StepOK P o t [] [] (.sc (.bool b)) := by
  refine step_value fun n X ρ hR hop hpre => ?_
  have g1 := hop x t_63
  have g2 := hop y t_63
  rw [hx] at g1; rw [hy] at g2
  simp only [VRep] at g2
  obtain ⟨q, hq, hb⟩ := hb
  have hp : ∃ ad, ρ x = .pointer ad ∧ q = ad.isNone := by
    rcases hq with ⟨⟨k, j, rfl⟩ | ⟨row, rfl⟩, rfl⟩ | ⟨rfl, rfl⟩
    · simp only [VRep] at g1; exact ⟨_, g1.2, rfl⟩
    · simp only [VRep] at g1; obtain ⟨b, j, h2, _⟩ := g1; exact ⟨_, h2, rfl⟩
    · simp only [VRep] at g1; exact ⟨_, g1, rfl⟩
  obtain ⟨ad, h1, rfl⟩ := hp
  have heq : ∀ d, (Op.equalIn (d + 1) ty (.pointer ad) (.pointer none)).run P X.w = .ok ad.isNone X.w := by
    intro d
    simp only [Op.equalIn, Sem.run_bind, run_under hu, Result.andThen_ok]
    cases ad <;> rfl
  have heq := heq 9999
  refine ⟨.bool b, exec_run (exec_binOp ho) ?_, by simp only [VRep]⟩;rw [h1, g2];rcases hb with ⟨rfl, rfl⟩ | ⟨rfl, rfl⟩
  · have e1 : (eqGuard .eql ty x y (.pointer ad) (.pointer none)) = pure () := rfl
    have e2 : (binOp .eql ty (.pointer ad) (.pointer none)) = (do pure (.bool (← Op.equal ty (.pointer ad) (.pointer none)))) := rfl
    rw [Sem.run_bind, e1, e2]
    simp only [Result.andThen_ok, Sem.run_bind, Sem.run_pure, Op.equal, Op.maxDepth]
    erw [heq]
    rfl
  · have e1 : (eqGuard .neq ty x y (.pointer ad) (.pointer none)) = pure () := rfl
    have e2 : (binOp .neq ty (.pointer ad) (.pointer none)) = (do pure (.bool (!(← Op.equal ty (.pointer ad) (.pointer none))))) := rfl
    rw [Sem.run_bind, e1, e2]
    simp only [Result.andThen_ok, Sem.run_bind, Sem.run_pure, Op.equal, Op.maxDepth]
    erw [heq]
    rfl
theorem step_max {x y : Operand} {tys : Array TypeId} {k : IntKind} {a b : Int} (ho : o.op = .call { callee := .builtin .max, args := #[x, y], argTypes := tys }) (hx : ev t x = .sc (.int k a)) (hy : ev t y = .sc (.int k b)) : StepOK P o t [] [] (.sc (.int k (if b > a then b else a))) := by
  refine step_value fun n X ρ hR hop hpre => ?_
  have g1 := hop x t_82
  have g2 := hop y t_82
  rw [hx] at g1; rw [hy] at g2
  simp only [VRep] at g1 g2
  refine ⟨.int k (if b > a then b else a), ?_, by simp only [VRep]⟩;rw [exec_builtin ho];have e1 : (#[x, y].map ρ : Array Value) = #[.int k a, .int k b] := by simp [g1, g2]
  rw [e1]
  rfl
theorem step_min {x y : Operand} {tys : Array TypeId} {k : IntKind} {a b : Int} (ho : o.op = .call { callee := .builtin .min, args := #[x, y], argTypes := tys }) (hx : ev t x = .sc (.int k a)) (hy : ev t y = .sc (.int k b)) : StepOK P o t [] [] (.sc (.int k (if b < a then b else a))) := by
  refine step_value fun n X ρ hR hop hpre => ?_
  have g1 := hop x t_82
  have g2 := hop y t_82
  rw [hx] at g1; rw [hy] at g2
  simp only [VRep] at g1 g2
  refine ⟨.int k (if b < a then b else a), ?_, by simp only [VRep]⟩;rw [exec_builtin ho];have e1 : (#[x, y].map ρ : Array Value) = #[.int k a, .int k b] := by simp [g1, g2]
  rw [e1]
  rfl
end
end Go.Vm
set_option linter.unusedVariables false
set_option linter.unusedSimpArgs false
namespace Go.Vm
structure Ac where
  pre : List (Nat × Box)
  up : List (Nat × Box)
  val : V
def GoodAt (P : Program) (ops : Array Oper) (o : Oper) (t : Nat → V) (c : Ac) : Prop :=
  (o.guard = none ∧ StepOK P o t c.pre c.up c.val) ∨
  (∃ j w g d, o.guard = some (j, w) ∧ ops[j]? = some g ∧ g.dst = some d ∧ ((t d = .sc (.bool w) ∧ StepOK P o t c.pre c.up c.val) ∨ (NoGuard (t d) w ∧ c.pre = [] ∧ c.up = [] ∧ c.val = .sc undef)))
def ActsOK (P : Program) (ops : Array Oper) (n : Nat) : List Oper → (Nat → V) → (Nat → Box) → List Ac → Prop
  | [], _, _, [] => True
  | o :: l, t, bx, c :: cs => GoodAt P ops o t c ∧ (∀ p ∈ c.pre, bx p.1 = p.2) ∧ (∀ p ∈ c.up, p.1 < n) ∧ ActsOK P ops n l (putS t o.dst c.val) (upds bx c.up) cs
  | _, _, _, _ => False
def tsub (D : Nat → Bool) : Nat → List Oper → List Ac → (Nat → V) → (Nat → V)
  | i, o :: l, c :: cs, t => tsub D (i + 1) l cs (if D i then putS t o.dst c.val else t)
  | _, _, _, t => t
def bsub (D : Nat → Bool) : Nat → List Ac → (Nat → Box) → (Nat → Box)
  | i, c :: cs, bx => bsub D (i + 1) cs (if D i then upds bx c.up else bx)
  | _, [], bx => bx
theorem putS_ne {t : Nat → V} {d : Option Tmp} {v : V} {x : Nat} (h : d ≠ some x) : putS t d v x = t x := by
  cases d with
  | none => rfl
  | some d => exact upd_ne _ _ _ _ (fun e => h (by rw [e]))
theorem putS_eq {t : Nat → V} {d : Option Tmp} {v : V} {x : Nat} (h : d = some x) : putS t d v x = v := by subst h; exact upd_eq _ _ _
theorem tsub_congr (D E : Nat → Bool) (x : Nat) : ∀ (l : List Oper) (cs : List Ac) (i : Nat) (t t' : Nat → V), t x = t' x → (∀ j o, l[j]? = some o → o.dst = some x → D (i + j) = E (i + j)) → tsub D i l cs t x = tsub E i l cs t' x
  | [], cs, i, t, t', h, _ => by cases cs <;> exact h
  | o :: l, [], i, t, t', h, _ => h
  | o :: l, c :: cs, i, t, t', h, hd => by
    simp only [tsub]
    refine tsub_congr D E x l cs (i + 1) _ _ ?_ (fun j o' hj ho => by have := hd (j + 1) o' (by simpa using hj) ho; rwa [show i + 1 + j = i + (j + 1) by omega])
    by_cases ho : o.dst = some x
    · have := hd 0 o rfl ho
      simp only [Nat.add_zero] at this
      rw [this]
      split
      · rw [putS_eq ho, putS_eq ho]
      · exact h
    · split <;> split <;> simp only [putS_ne ho, h]
theorem bsub_congr (D E : Nat → Bool) (k : Nat) : ∀ (cs : List Ac) (i : Nat) (b b' : Nat → Box), b k = b' k → (∀ (j : Nat) c, cs[j]? = some c → (∃ p ∈ c.up, p.1 = k) → D (i + j) = E (i + j)) → bsub D i cs b k = bsub E i cs b' k
  | [], i, b, b', h, _ => h
  | c :: cs, i, b, b', h, hd => by
    simp only [bsub]
    refine bsub_congr D E k cs (i + 1) _ _ ?_ (fun j c' hj ho => by have := hd (j + 1) c' (by simpa using hj) ho; rwa [show i + 1 + j = i + (j + 1) by omega])
    by_cases ho : ∃ p ∈ c.up, p.1 = k
    · have := hd 0 c rfl ho
      simp only [Nat.add_zero] at this
      rw [this]
      split
      · exact upds_same c.up b b' k h
      · exact h
    · have hn : ∀ p ∈ c.up, p.1 ≠ k := fun p hp e => ho ⟨p, hp, e⟩
      split <;> split <;> simp only [upds_not _ _ _ hn, h]
where
  upds_same : ∀ (l : List (Nat × Box)) (f g : Nat → Box) (k : Nat), f k = g k → upds f l k = upds g l k
    | [], f, g, k, h => h
    | (j, v) :: l, f, g, k, h => by
      simp only [upds]
      refine upds_same l _ _ k ?_
      by_cases e : k = j
      · subst e; rw [upd_eq, upd_eq]
      · rw [upd_ne _ _ _ _ e, upd_ne _ _ _ _ e]; exact h
def reach (ops : Array Oper) : Nat → Nat → Nat → Bool
  | 0, _, _ => false
  | f + 1, i, j => ((ops[i]?).map fun o => (o.after.any fun e => Region.binds .any e && e.on == j) || (o.after.any fun e => Region.binds .any e && (Nat.blt j e.on && reach ops f e.on j))).getD false
def depOK (ops : Array Oper) : Bool :=
  ops.toList.zipIdx.all fun (o, i) =>
    (o.after.all fun e => !Region.binds .any e || decide (e.on < i)) &&
    (ops.toList.zipIdx.all fun (o', j) => i == j || ((match o'.dst with
      | none => true
      | some d => (!(o.looksAt ops).contains d || (if j < i then reach ops ops.size i j else reach ops ops.size j i)) && o.dst != some d)))
structure DepOK (ops : Array Oper) : Prop where
  back : ∀ (i : Nat) (o : Oper), ops[i]? = some o → ∀ e ∈ o.after, Region.binds .any e = true → e.on < i
  look : ∀ (i : Nat) (o : Oper) (j : Nat) (o' : Oper) (d : Tmp), ops[i]? = some o → ops[j]? = some o' → i ≠ j → o'.dst = some d → d ∈ o.looksAt ops → (j < i → reach ops ops.size i j = true) ∧ (i < j → reach ops ops.size j i = true)
  dst : ∀ (i : Nat) (o : Oper) (j : Nat) (o' : Oper) (d : Tmp), ops[i]? = some o → ops[j]? = some o' → i ≠ j → o'.dst = some d → o.dst ≠ some d
theorem mem_zip {ops : Array Oper} {i : Nat} {o : Oper} (h : ops[i]? = some o) : (o, i) ∈ ops.toList.zipIdx := by
  rw [List.mem_zipIdx_iff_getElem?]
  simpa using h
theorem depOK_spec {ops : Array Oper} (h : depOK ops = true) : DepOK ops := by
  unfold depOK at h
  rw [List.all_eq_true] at h
  have key : ∀ (i : Nat) (o : Oper), ops[i]? = some o → (o.after.all fun e => !Region.binds .any e || decide (e.on < i)) = true ∧ ∀ (j : Nat) (o' : Oper), ops[j]? = some o' → i ≠ j → ∀ d, o'.dst = some d → ((o.looksAt ops).contains d = true → (if j < i then reach ops ops.size i j else reach ops ops.size j i) = true) ∧ o.dst ≠ some d := by
    intro i o ho
    have := h (o, i) (mem_zip ho)
    simp only [Bool.and_eq_true, List.all_eq_true] at this
    refine ⟨this.1, fun j o' ho' hij d hd => ?_⟩;have h2 := this.2 (o', j) (mem_zip ho');simp only [hd, Bool.or_eq_true, beq_iff_eq, hij, false_or, Bool.and_eq_true, Bool.not_eq_true', bne_iff_ne, ne_eq] at h2;refine ⟨fun hc => ?_, h2.2⟩;rcases h2.1 with h3 | h3
    · rw [hc] at h3; cases h3
    · exact h3
  refine ⟨fun i o ho e he hb => ?_, fun i o j o' d ho ho' hij hd hm => ?_, fun i o j o' d ho ho' hij hd => ((key i o ho).2 j o' ho' hij d hd).2⟩
  · have := (key i o ho).1
    rw [Array.all_eq_true_iff_forall_mem] at this
    have := this e he
    simpa [hb] using this
  · have h1 := ((key i o ho).2 j o' ho' hij d hd).1 (by simpa using hm)
    refine ⟨fun hlt => ?_, fun hlt => ?_⟩
    · rwa [if_pos hlt] at h1
    · rwa [if_neg (by omega)] at h1
theorem tsub_none (D : Nat → Bool) : ∀ (l : List Oper) (cs : List Ac) (k : Nat) (t : Nat → V), (∀ j, k ≤ j → D j = false) → tsub D k l cs t = t
  | [], cs, k, t, h => by cases cs <;> rfl
  | o :: l, [], k, t, h => rfl
  | o :: l, c :: cs, k, t, h => by
    simp only [tsub, h k (Nat.le_refl _), Bool.false_eq_true, if_false]
    exact tsub_none D l cs (k + 1) t (fun j hj => h j (by omega))
theorem bsub_none (D : Nat → Bool) : ∀ (cs : List Ac) (k : Nat) (t : Nat → Box), (∀ j, k ≤ j → D j = false) → bsub D k cs t = t
  | [], k, t, h => rfl
  | c :: cs, k, t, h => by
    simp only [bsub, h k (Nat.le_refl _), Bool.false_eq_true, if_false]
    exact bsub_none D cs (k + 1) t (fun j hj => h j (by omega))
theorem acts_get {P : Program} {ops : Array Oper} {n : Nat} : ∀ (l : List Oper) (t : Nat → V) (bx : Nat → Box) (cs : List Ac) (k i : Nat) (o : Oper), ActsOK P ops n l t bx cs → l[i]? = some o →
    ∃ c, cs[i]? = some c ∧ GoodAt P ops o (tsub (fun j => decide (j < k + i)) k l cs t) c ∧ (∀ p ∈ c.pre, bsub (fun j => decide (j < k + i)) k cs bx p.1 = p.2) ∧ ∀ p ∈ c.up, p.1 < n
  | [], t, bx, cs, k, i, o, h, hi => by simp at hi
  | o :: l, t, bx, [], k, i, o', h, hi => by simp only [ActsOK] at h
  | o :: l, t, bx, c :: cs, k, i, o', h, hi => by
    simp only [ActsOK] at h
    cases i with
    | zero =>
      simp at hi; subst hi
      refine ⟨c, rfl, ?_, ?_, h.2.2.1⟩
      · rw [tsub_none _ _ _ _ _ (fun j hj => by simp; omega)]; exact h.1
      · rw [bsub_none _ _ _ _ (fun j hj => by simp; omega)]; exact h.2.1
    | succ i =>
      obtain ⟨c', h1, h2, h3, h4⟩ := acts_get l _ _ cs (k + 1) i o' h.2.2.2 (by simpa using hi)
      refine ⟨c', by simpa using h1, ?_, ?_, h4⟩
      · simp only [tsub]
        rw [if_pos (by simp)]
        rw [show k + (i + 1) = k + 1 + i by omega]
        exact h2
      · simp only [bsub]
        rw [if_pos (by simp)]
        rw [show k + (i + 1) = k + 1 + i by omega]
        exact h3
theorem reach_in {ops : Array Oper} {D : Nat → Bool} (hcl : ∀ (j : Nat) (o : Oper), ops[j]? = some o → D j = true → ∀ e ∈ o.after, Region.binds .any e = true → D e.on = true) : ∀ (f i j : Nat), (∀ o, ops[i]? = some o → ∀ e ∈ o.after, Region.binds .any e = true → D e.on = true) → reach ops f i j = true → D j = true
  | 0, i, j, h, hr => by simp [reach] at hr
  | f + 1, i, j, h, hr => by
    simp only [reach] at hr
    cases ho : ops[i]? with
    | none => simp [ho] at hr
    | some o =>
      simp only [ho, Option.map_some, Option.getD_some, Array.any_eq_true', Bool.and_eq_true, Bool.or_eq_true, beq_iff_eq] at hr
      rcases hr with ⟨e, he, hb, hj⟩ | ⟨e, he, hb, _, hj⟩
      · exact hj ▸ h o ho e he hb
      · exact reach_in hcl f e.on j (fun o' ho' => hcl e.on o' ho' (h o ho e he hb)) hj
theorem upds_in {α : Type} : ∀ (l : List (Nat × α)) (f g : Nat → α) (k : Nat), (∃ p ∈ l, p.1 = k) → upds f l k = upds g l k
  | [], f, g, k, h => by simp at h
  | (j, v) :: l, f, g, k, h => by
    simp only [upds]
    by_cases hl : ∃ p ∈ l, p.1 = k
    · exact upds_in l _ _ k hl
    · have hn : ∀ p ∈ l, p.1 ≠ k := fun p hp e => hl ⟨p, hp, e⟩
      rw [upds_not _ _ _ hn, upds_not _ _ _ hn]
      obtain ⟨p, hp, rfl⟩ := h
      rcases List.mem_cons.1 hp with rfl | hp
      · rw [upd_eq, upd_eq]
      · exact absurd rfl (hn p hp)
theorem tsub_at (E : Nat → Bool) (x : Nat) : ∀ (l : List Oper) (cs : List Ac) (k i : Nat) (t : Nat → V) (o : Oper) (c : Ac), l[i]? = some o → cs[i]? = some c → E (k + i) = true → o.dst = some x → (∀ (j : Nat) o', l[j]? = some o' → j ≠ i → o'.dst ≠ some x) → tsub E k l cs t x = c.val
  | [], cs, k, i, t, o, c, h, _, _, _, _ => by simp at h
  | o :: l, [], k, i, t, o', c', h, hc, _, _, _ => by simp at hc
  | o :: l, c :: cs, k, i, t, o', c', h, hc, hE, hd, hn => by
    simp only [tsub]
    cases i with
    | zero =>
      simp at h hc; subst h; subst hc
      simp only [Nat.add_zero] at hE
      rw [hE, if_pos rfl]
      have : ∀ (l' : List Oper) (cs' : List Ac) (k' : Nat) (t' : Nat → V), (∀ (j : Nat) o', l'[j]? = some o' → o'.dst ≠ some x) → tsub E k' l' cs' t' x = t' x := by
        intro l'
        induction l' with
        | nil => intro cs' k' t' _; cases cs' <;> rfl
        | cons o2 l2 ih =>
          intro cs' k' t' hh
          cases cs' with
          | nil => rfl
          | cons c2 cs2 =>
            simp only [tsub]
            rw [ih _ _ _ (fun j o' hj => hh (j + 1) o' (by simpa using hj))]
            split
            · exact putS_ne (hh 0 o2 rfl)
            · rfl
      rw [this _ _ _ _ (fun j o' hj => hn (j + 1) o' (by simpa using hj) (by omega)), putS_eq hd]
    | succ i =>
      exact tsub_at E x l cs (k + 1) i _ o' c' t_123 (by simpa using hc) (by rw [show k + 1 + i = k + (i + 1) by omega]; exact hE) hd (fun j o2 hj hne => hn (j + 1) o2 (by simpa using hj) (by omega))
theorem bsub_at (E : Nat → Bool) (x : Nat) (g : Nat → Box) : ∀ (cs : List Ac) (k i : Nat) (b : Nat → Box) (c : Ac), cs[i]? = some c → E (k + i) = true → (∃ p ∈ c.up, p.1 = x) → (∀ (j : Nat) c', cs[j]? = some c' → i < j → E (k + j) = true → ¬ ∃ p ∈ c'.up, p.1 = x) → bsub E k cs b x = upds g c.up x
  | [], k, i, b, c, h, _, _, _ => by simp at h
  | c :: cs, k, i, b, c', h, hE, hx, hn => by
    simp only [bsub]
    cases i with
    | zero =>
      simp at h; subst h
      simp only [Nat.add_zero] at hE
      rw [hE, if_pos rfl]
      have : ∀ (cs' : List Ac) (k' : Nat) (b' : Nat → Box), (∀ (j : Nat) c', cs'[j]? = some c' → E (k' + j) = true → ¬ ∃ p ∈ c'.up, p.1 = x) → bsub E k' cs' b' x = b' x := by
        intro cs'
        induction cs' with
        | nil => intro k' b' _; rfl
        | cons c2 cs2 ih =>
          intro k' b' hh
          simp only [bsub]
          rw [ih _ _ (fun j c' hj hE' => hh (j + 1) c' (by simpa using hj) (by rw [show k' + (j + 1) = k' + 1 + j by omega]; exact hE'))]
          split
          · rename_i hk
            have := hh 0 c2 rfl (by simpa using hk)
            exact upds_not _ _ _ (fun p hp e => this ⟨p, hp, e⟩)
          · rfl
      rw [this _ _ _ (fun j c' hj hE' => hn (j + 1) c' (by simpa using hj) (by omega) (by rw [show k + (j + 1) = k + 1 + j by omega]; exact hE'))]
      exact upds_in _ _ _ _ hx
    | succ i =>
      exact bsub_at E x g cs (k + 1) i _ c' t_123 (by rw [show k + 1 + i = k + (i + 1) by omega]; exact hE) hx (fun j c2 hj hlt hE' => hn (j + 1) c2 (by simpa using hj) (by omega) (by rw [show k + (j + 1) = k + 1 + j by omega]; exact hE'))
def Apart (c c' : Ac) : Prop := (∀ p ∈ c.up, (∀ q ∈ c'.pre, p.1 ≠ q.1) ∧ ∀ q ∈ c'.up, p.1 ≠ q.1) ∧ ∀ p ∈ c'.up, ∀ q ∈ c.pre, p.1 ≠ q.1
theorem acts_len {P : Program} {ops : Array Oper} {n : Nat} : ∀ (l : List Oper) (t : Nat → V) (bx : Nat → Box) (cs : List Ac), ActsOK P ops n l t bx cs → cs.length = l.length
  | [], t, bx, [], h => rfl
  | [], t, bx, c :: cs, h => by simp only [ActsOK] at h
  | o :: l, t, bx, [], h => by simp only [ActsOK] at h
  | o :: l, t, bx, c :: cs, h => by simp only [ActsOK] at h; simp [acts_len l _ _ cs h.2.2.2]
theorem set_getD {listed : Array Bool} {i j : Nat} (hi : i < listed.size) : (listed.setIfInBounds i true).getD j false = if j = i then true else listed.getD j false := by
  by_cases h : j = i
  · subst h; simp [hi]
  · rw [getD_set_ne false (Ne.symm h), if_neg h]
theorem runs_region_draw {P : Program} {B : Bas} {N : Nat} {s : S} {Q : Exit → S → Prop} {id : Nat} {ops : Array Oper} (cs : List Ac) (hm : P.follows .mixedOrders = true) (hdep : depOK ops = true) (hdst : ops.toList.all (fun o => okDst N o.dst) = true)
    (h : ActsOK P ops s.n ops.toList s.t s.bx cs) (hap : ∀ (i j : Nat) (c c' : Ac), cs[i]? = some c → cs[j]? = some c' → i < j → reach ops ops.size j i = true ∨ Apart c c')
    (hQ : Q .normal ⟨tsub (fun _ => true) 0 ops.toList cs s.t, s.n, bsub (fun _ => true) 0 cs s.bx⟩) : Runs P B N (.region id ops true) s Q := by
  intro X0 a0 hs0
  have hdep := depOK_spec hdep
  have hlen := acts_len _ _ _ _ h
  refine wpIn_region_any hm ?_
  -- what holds where the operations of 'listed' have run
  let Inv : Array Bool → Act → World → Prop := fun listed a w => listed.size = ops.size ∧ (∀ (j : Nat) (o : Oper), ops[j]? = some o → listed.getD j false = true → ∀ e ∈ o.after, Region.binds .any e = true → listed.getD e.on false = true) ∧
    ∃ X, X.w = w ∧ St B N ⟨tsub (fun j => listed.getD j false) 0 ops.toList cs s.t, s.n, bsub (fun j => listed.getD j false) 0 cs s.bx⟩ X a
  have hdone : ∀ listed a w, Inv listed a w → Region.ready .any ops listed = [] → post B N Q .normal a w := by
    intro listed a w ⟨hsz, hcl, X, hw, hst⟩ hr
    have hall : ∀ j, j < ops.size → listed.getD j false = true := by
      intro j
      induction j using Nat.strongRecOn with
      | _ j ih =>
        intro hj
        cases hq : listed.getD j false with
        | true => rfl
        | false =>
          have hj1 : j < listed.size := by omega
          have hjt : listed.getD j true = false := by
            have h1 : listed.getD j false = listed[j] := by simp [hj1]
            have h2 : listed.getD j true = listed[j] := by simp [hj1]
            rw [h2, ← h1]; exact hq
          have : j ∈ Region.ready .any ops listed := mem_ready.2 ⟨hjt, ops[j], by simp [hj], fun e he hb => by
            have hlt := hdep.back j ops[j] (by simp [hj]) e he hb
            exact ih e.on hlt (by omega)⟩
          rw [hr] at this
          cases this
    refine .inl ⟨_, X, hQ, hw, ?_⟩;have e1 : tsub (fun j => listed.getD j false) 0 ops.toList cs s.t = tsub (fun _ => true) 0 ops.toList cs s.t := by
      funext x
      refine tsub_congr _ _ x _ _ _ _ _ rfl (fun j o hj _ => ?_);have : j < ops.size := by have := (List.getElem?_eq_some_iff.1 hj).1; simpa using this
      rw [Nat.zero_add]; exact hall j this
    have e2 : bsub (fun j => listed.getD j false) 0 cs s.bx = bsub (fun _ => true) 0 cs s.bx := by
      funext k
      refine bsub_congr _ _ k _ _ _ _ rfl (fun j c hj _ => ?_);have h1 := (List.getElem?_eq_some_iff.1 hj).1;have : j < ops.size := by rw [hlen] at h1; simpa using h1
      rw [Nat.zero_add]; exact hall j this
    rw [e1, e2] at hst
    exact hst
  have hstep : ∀ listed a w i, Inv listed a w → i ∈ Region.ready .any ops listed → wpOpIn (fen B.R) 0 P ops (post B N Q) i (Inv (listed.setIfInBounds i true)) a w := by
    rintro listed a w i ⟨hsz, hcl, X, rfl, hst⟩ hi
    obtain ⟨hi0, o, ho, hpred⟩ := mem_ready.1 hi
    have hilt : i < ops.size := (Array.getElem?_eq_some_iff.1 ho).1
    have hil : i < listed.size := by omega
    have hif : listed.getD i false = false := by
      have h1 : listed.getD i false = listed[i] := by simp [hil]
      have h2 : listed.getD i true = listed[i] := by simp [hil]
      rw [h1, ← h2]; exact hi0
    have hol : ops.toList[i]? = some o := by simpa using ho
    obtain ⟨c, hc, hgood, hpre, hup⟩ := acts_get ops.toList s.t s.bx cs 0 i o h hol
    have hre : ∀ j, reach ops ops.size i j = true → listed.getD j false = true := fun j hr => reach_in (D := fun j => listed.getD j false) hcl ops.size i j (fun o' ho' e he hb => by rw [ho] at ho'; cases ho'; exact hpred e he hb) hr
    have hre2 : ∀ j, reach ops ops.size j i = true → listed.getD j false = false := by
      intro j hr
      cases hq : listed.getD j false with
      | false => rfl
      | true =>
        have := reach_in (D := fun j => listed.getD j false) hcl ops.size j i (fun o' ho' => hcl j o' ho' hq) hr
        rw [hif] at this; cases this
    -- operands
    have hlook : ∀ d, d ∈ o.looksAt ops → tsub (fun j => decide (j < 0 + i)) 0 ops.toList cs s.t d = tsub (fun j => listed.getD j false) 0 ops.toList cs s.t d := by
      intro d hd
      refine tsub_congr _ _ d _ _ _ _ _ rfl (fun j o' hj ho' => ?_);rw [Nat.zero_add, Nat.zero_add]
      by_cases hji : j = i
      · subst hji; simp only [Nat.lt_irrefl, decide_false]; exact hif.symm
      · have hj' : ops[j]? = some o' := by simpa using hj
        obtain ⟨l1, l2⟩ := hdep.look i o j o' d ho hj' (Ne.symm hji) ho' hd
        by_cases hlt : j < i
        · rw [hre j (l1 hlt)]; simp [hlt]
        · rw [hre2 j (l2 (by omega))]; simp; omega
    have hop : ∀ x ∈ o.op.operands, VRep X (ev (tsub (fun j => decide (j < 0 + i)) 0 ops.toList cs s.t) x) (a.eval x) := by
      intro x hx
      have hv := ev_rep hst.t x
      cases x with
      | tmp d =>
        have hd : d ∈ o.looksAt ops := by
          unfold Oper.looksAt
          refine List.mem_append_left _ ?_;rw [List.mem_filterMap];exact ⟨.tmp d, by simpa using hx, rfl⟩
        simp only [ev] at hv ⊢
        rw [hlook d hd]; exact hv
      | const v => exact hv
      | func f => exact hv
      | global g => exact hv
    -- boxes
    have hord : ∀ (j : Nat) (c' : Ac), cs[j]? = some c' → j ≠ i → (∃ p ∈ c'.up, (∃ q ∈ c.pre, p.1 = q.1) ∨ ∃ q ∈ c.up, p.1 = q.1) → (j < i → listed.getD j false = true) ∧ (i < j → listed.getD j false = false) := by
      intro j c' hj hne ⟨p, hp, hpq⟩
      refine ⟨fun hlt => ?_, fun hlt => ?_⟩
      · rcases hap j i c' c hj hc hlt with hr | ⟨h1, h2⟩
        · exact hre j hr
        · rcases hpq with ⟨q, hq, e⟩ | ⟨q, hq, e⟩
          · exact absurd e ((h1 p hp).1 q hq)
          · exact absurd e ((h1 p hp).2 q hq)
      · rcases hap i j c c' hc hj hlt with hr | ⟨h1, h2⟩
        · exact hre2 j hr
        · rcases hpq with ⟨q, hq, e⟩ | ⟨q, hq, e⟩
          · exact absurd e (h2 p hp q hq)
          · exact absurd e.symm ((h1 q hq).2 p hp)
    have hpre' : ∀ p ∈ c.pre, X.bx p.1 = p.2 := by
      intro p hp
      rw [hst.bx, ← hpre p hp]
      refine (bsub_congr _ _ p.1 _ _ _ _ rfl (fun j c' hj hu => ?_)).symm;rw [Nat.zero_add, Nat.zero_add];obtain ⟨q, hq, e⟩ := hu
      by_cases hji : j = i
      · subst hji; simp only [Nat.lt_irrefl, decide_false]; exact hif.symm
      · obtain ⟨l1, l2⟩ := hord j c' hj hji ⟨q, hq, .inl ⟨p, hp, e⟩⟩
        by_cases hlt : j < i
        · rw [l1 hlt]; simp [hlt]
        · rw [l2 (by omega)]; simp; omega
    -- what is behind it
    have hdN : okDst N o.dst = true := by
      rw [List.all_eq_true] at hdst
      exact hdst o (by have := Array.mem_of_getElem? ho; simpa using this)
    have hfin : ∀ a' w', (∃ X', X'.w = w' ∧ St B N ⟨putS (tsub (fun j => listed.getD j false) 0 ops.toList cs s.t) o.dst c.val, s.n, upds (bsub (fun j => listed.getD j false) 0 cs s.bx) c.up⟩ X' a') → Inv (listed.setIfInBounds i true) a' w' := by
      rintro a' w' ⟨X', hw', hst'⟩
      refine ⟨by simpa using hsz, fun j o' ho' hj e he hb => ?_, X', hw', ?_⟩
      · rw [set_getD hil] at hj ⊢
        by_cases hji : j = i
        · subst hji
          rw [ho] at ho'; cases ho'
          have := hpred e he hb
          split
          · rfl
          · exact this
        · rw [if_neg hji] at hj
          have := hcl j o' ho' hj e he hb
          split
          · rfl
          · exact this
      · have e1 : putS (tsub (fun j => listed.getD j false) 0 ops.toList cs s.t) o.dst c.val = tsub (fun j => (listed.setIfInBounds i true).getD j false) 0 ops.toList cs s.t := by
          funext x
          by_cases hx : o.dst = some x
          · rw [putS_eq hx]
            refine (tsub_at _ x ops.toList cs 0 i _ o c hol hc (by rw [Nat.zero_add, set_getD hil]; simp) hx (fun j o' hj hne => ?_)).symm;exact hdep.dst j o' i o x (by simpa using hj) ho hne hx
          · rw [putS_ne hx]
            refine tsub_congr _ _ x _ _ _ _ _ rfl (fun j o' hj ho' => ?_);rw [Nat.zero_add, set_getD hil, if_neg]
            intro e; subst e
            rw [hol] at hj; cases hj
            exact hx ho'
        have e2 : upds (bsub (fun j => listed.getD j false) 0 cs s.bx) c.up = bsub (fun j => (listed.setIfInBounds i true).getD j false) 0 cs s.bx := by
          funext k
          by_cases hk : ∃ p ∈ c.up, p.1 = k
          · refine (bsub_at _ k _ cs 0 i _ c hc (by rw [Nat.zero_add, set_getD hil]; simp) hk (fun j c' hj hlt hE hu => ?_)).symm
            rw [Nat.zero_add, set_getD hil, if_neg (by omega)] at hE
            obtain ⟨p, hp, rfl⟩ := hk
            obtain ⟨q, hq, e⟩ := hu
            have := (hord j c' hj (by omega) ⟨q, hq, .inr ⟨p, hp, e⟩⟩).2 hlt
            rw [this] at hE; cases hE
          · rw [upds_not _ _ _ (fun p hp e => hk ⟨p, hp, e⟩)]
            refine bsub_congr _ _ k _ _ _ _ rfl (fun j c' hj hu => ?_);rw [Nat.zero_add, set_getD hil, if_neg]
            intro e; subst e
            rw [hc] at hj; cases hj
            exact hk hu
        rw [← e1, ← e2]
        exact hst'
    have hwpo : StepOK P o (tsub (fun j => decide (j < 0 + i)) 0 ops.toList cs s.t) c.pre c.up c.val → o.wpIn (fen B.R) 0 P a X.w (Inv (listed.setIfInBounds i true)) (post B N Q) := by
      intro hs
      refine hs.wpIn B.R hst.rr hop hpre' hup ?_
      intro X' u hb hR he hv
      exact hfin _ _ ⟨X', rfl, hst.put hdN hR hb he hv⟩
    unfold wpOpIn
    rw [ho]
    show if Region.wanted o (yielded ops a.tmps) = true then _ else _
    rcases hgood with ⟨hg, hs⟩ | ⟨j, wt, g, d, hg, hj, hgd, hcase⟩
    · rw [if_pos (by simp [Region.wanted, hg])]
      exact hwpo hs
    · have hd : d ∈ o.looksAt ops := by
        unfold Oper.looksAt
        refine List.mem_append_right _ ?_
        simp [hg, hj, hgd]
      have hv := hst.t d
      simp only at hv
      rw [← hlook d hd] at hv
      have hdN' : d < a.tmps.size := by
        rw [hst.N]
        rw [List.all_eq_true] at hdst
        have := hdst g (by have := Array.mem_of_getElem? hj; simpa using this)
        rw [hgd] at this
        exact Nat.blt_eq ▸ (by simpa [okDst] using this)
      have e1 : a.tmps[d]? = some (a.tmps.getD d undef) := by
        rw [Array.getElem?_eq_getElem hdN']
        have : a.tmps.getD d undef = a.tmps[d] := by simp [hdN']
        rw [this]
      rcases hcase with ⟨htd, hs⟩ | ⟨hng, hp0, hu0, hv0⟩
      · rw [htd] at hv
        simp only [VRep] at hv
        have hy : yielded ops a.tmps j = some wt := by simp only [yielded, hj, hgd, Option.bind_some, e1, hv]
        rw [if_pos (by simp only [Region.wanted, hg, hy]; simp)]
        exact hwpo hs
      · have hy : yielded ops a.tmps j ≠ some wt := by
          have := hng.wanted hv
          simp only [yielded, hj, hgd, Option.bind_some, e1]
          exact this
        rw [if_neg (by simp only [Region.wanted, hg]; simpa using hy)]
        refine ⟨fun _ _ => trivial, hfin _ _ ⟨X, rfl, ?_⟩⟩;rw [hu0, hv0];exact hst.put (up := []) hdN hst.rr rfl (Ext.refl X) (by simp [VRep])
  have hmain : ∀ fuel listed a w, Inv listed a w → (listed.toList.filter (! ·)).length ≤ fuel → wpAnyIn (fen B.R) 0 P .any ops (post B N Q) fuel listed a w := by
    intro fuel
    induction fuel with
    | zero =>
      intro listed a w hI hf
      have hr : Region.ready .any ops listed = [] := by
        apply List.eq_nil_iff_forall_not_mem.2
        intro i hi
        obtain ⟨hi0, o, ho, _⟩ := mem_ready.1 hi
        have hil : i < listed.size := by rw [hI.1]; exact (Array.getElem?_eq_some_iff.1 ho).1
        have h2 : listed.getD i true = listed[i] := by simp [hil]
        have : listed[i] ∈ listed.toList.filter (! ·) := by
          rw [List.mem_filter]
          exact ⟨by simp, by rw [← h2, hi0]; rfl⟩
        rw [List.length_eq_zero_iff.1 (Nat.le_zero.1 hf)] at this
        cases this
      exact ⟨hr, hdone _ _ _ hI hr⟩
    | succ fuel ih =>
      intro listed a w hI hf
      refine ⟨fun hr => hdone _ _ _ hI hr, fun i hi => ?_⟩;refine wpOpIn_mono (fun a' w' hI' => ih _ a' w' hI' ?_) (hstep listed a w i hI hi);obtain ⟨hi0, o, ho, _⟩ := mem_ready.1 hi;have hil : i < listed.size := by rw [hI.1]; exact (Array.getElem?_eq_some_iff.1 ho).1
      have h2 : listed.getD i true = listed[i] := by simp [hil]
      have hfl : listed.toList[i]'(by simpa using hil) = false := by have := hi0; rw [h2] at this; simpa using this
      have : ((listed.setIfInBounds i true).toList.filter (! ·)).length + 1 = (listed.toList.filter (! ·)).length := by
        rw [Array.toList_setIfInBounds]
        exact count_set listed.toList i (by simpa using hil) hfl
      omega
  have hrep : ∀ j, (Array.replicate ops.size false).getD j false = false := by
    intro j
    rw [Array.getD_eq_getD_getElem?, Array.getElem?_replicate]
    split <;> rfl
  refine hmain ops.size _ a0 _ ⟨by simp, fun j o ho hj => ?_, { X0 with w := { X0.w with drawn := X0.w.drawn + 1 } }, rfl, ?_⟩ ?_
  · rw [hrep] at hj; cases hj
  · have e1 : (fun j => (Array.replicate ops.size false).getD j false) = fun _ => false := by funext j; exact hrep j
    rw [e1, tsub_none _ _ _ _ _ (fun _ _ => rfl), bsub_none _ _ _ _ (fun _ _ => rfl)]
    obtain ⟨d1, d2⟩ := drew_st hs0.rr (X0.w.drawn + 1)
    exact ⟨d1, hs0.bx, fun i => VRep.mono d2 _ _ (hs0.t i), hs0.N, hs0.defers.mono d2 rfl, hs0.ext.trans d2⟩
  · simp
where
  count_set : ∀ (l : List Bool) (i : Nat) (hi : i < l.length), l[i] = false → ((l.set i true).filter (! ·)).length + 1 = (l.filter (! ·)).length
    | [], i, hi, h => by simp at hi
    | b :: l, 0, hi, h => by simp at h; subst h; simp
    | b :: l, i + 1, hi, h => by
      have := count_set l i (by simpa using hi) t_123
      cases b <;> simp_all
end Go.Vm
