/- A logic of values over the model. Part X: a constant text as bytes (a literal's row, and its conversion to its own type, in one). -/
import Derived.Test.YtjmfdddeoadpaaaKbVmW
import Derived.Lib.SlBytesConst
set_option linter.unusedVariables false
set_option linter.unusedSimpArgs false
namespace Go.Vm
section
variable {P : Program} {B : Bas} {N : Nat} {Q : Exit → S → Prop} {l : List (Nat × V)} {n : Nat} {bx : Nat → Box} {ops : Array Oper} {L : List Oper} {o o2 : Oper}
/-- A new block that nobody writes any more, under any mark. -/
theorem new_frzM {n : Nat} {X : Ctx} {cells : Array Value} {ty : TypeId} (mk : Nat × Nat) (h : R n X) :
    ∃ X', X'.bx = X.bx ∧ X'.w = X.w.alloc (.cells cells ty mk) ∧ X'.O X.w.heap.size = .frz ∧ R n X' ∧ Ext X X' := by
  let X' : Ctx := { X with O := upd X.O X.w.heap.size .frz, w := X.w.alloc (.cells cells ty mk) }
  have hfree := h.free X.w.heap.size (Nat.le_refl _)
  have hne : ∀ b, b ≠ X.w.heap.size → X'.w.heap[b]? = X.w.heap[b]? := by
    intro b hb
    show (X.w.heap.push _)[b]? = _
    rw [Array.getElem?_push, if_neg hb]
  have hOne : ∀ b, b ≠ X.w.heap.size → X'.O b = X.O b := fun b hb => upd_ne _ _ _ _ hb
  have he : Ext X X' := by
    refine ⟨fun b o hs => ?_, fun j hj => ⟨hj, rfl⟩, fun j m hj => ⟨m, hj, Nat.le_refl _, fun _ b st arr ty h1 h2 => ⟨?_, arr, ?_, rfl⟩⟩, fun b hb => ?_, gc_same fun j v e rows hj => ⟨hj, rfl, fun hOj => ?_⟩, rfl, rfl, rfl, by show _ ≤ (X.w.heap.push _).size; simp⟩
    · have : b ≠ X.w.heap.size := by intro e; subst e; rw [hfree] at hs; exact hs
      rw [hOne b this]
      exact ⟨hs, World.cell?_of_block (w := X.w) (a := ⟨b, o, none⟩) (hne b this)⟩
    · have : b ≠ X.w.heap.size := by intro e; subst e; rw [hfree] at h1; cases h1
      rw [hOne b this]; exact h1
    · have : b ≠ X.w.heap.size := by intro e; subst e; rw [hfree] at h1; cases h1
      exact (hne b this).trans h2
    · have : b ≠ X.w.heap.size := by intro e; subst e; rw [hfree] at hb; cases hb
      rw [hOne b this]
      exact ⟨hb, hne b this⟩
    · have : X.bl j ≠ X.w.heap.size := by intro e; rw [e, hfree] at hOj; cases hOj
      exact ⟨(hOne _ this).trans hOj, hne _ this⟩
  refine ⟨X', rfl, rfl, upd_eq _ _ _, ⟨fun j hj => h.dead j hj, fun b hb => ?_, fun j cs1 hj => ?_, gbox_same h he fun j v e rows hj => ⟨hj, rfl, fun hOj => ?_⟩, obj_same h he fun j o hj => ⟨hj, rfl, fun hOj => ?_⟩⟩, he⟩
  · have hb' : (X.w.heap.push (Obj.cells cells ty mk)).size ≤ b := hb
    rw [Array.size_push] at hb'
    rw [hOne b (by omega)]
    exact h.free b (by omega)
  · obtain ⟨h1, us1, ty1, h2, h3, h4⟩ := h.box j cs1 hj
    have : X.bl j ≠ X.w.heap.size := by intro e2; rw [e2] at h1; rw [hfree] at h1; cases h1
    show X'.O (X.bl j) = _ ∧ _
    rw [hOne _ this]
    exact ⟨h1, us1, ty1, (hne _ this).trans h2, RowRep.mono he _ _ h3, h4⟩
  · have : X.bl j ≠ X.w.heap.size := by intro e; rw [e, hfree] at hOj; cases hOj
    exact ⟨(hOne _ this).trans hOj, hne _ this⟩
  · have : X.bl j ≠ X.w.heap.size := by intro e; rw [e, hfree] at hOj; cases hOj
    exact ⟨(hOne _ this).trans hOj, hne _ this⟩
theorem fl_newM {n e : Nat} {X : Ctx} {xs : List (List V)} {us : List Value} {el : TypeId} (mk : Nat × Nat) (hR : R n X) (hr : RowRep X xs.flatten us) (hl : ∀ r ∈ xs, r.length = e) (h1 : ∀ x ∈ us, oneV x = true) :
    ∃ X', X'.bx = X.bx ∧ X'.w = X.w.alloc (.cells us.toArray el mk) ∧ R n X' ∧ Ext X X' ∧ VRep X' (.fl e xs) (.slice (some ⟨X.w.heap.size, 0, none⟩) xs.length xs.length) := by
  obtain ⟨X', x1, x2, x3, x4, x5⟩ := new_frzM (cells := us.toArray) (ty := el) mk hR
  refine ⟨X', x1, x2, x4, x5, ?_⟩
  simp only [VRep]
  refine ⟨_, rfl, .inr ⟨_, _, rfl, rowsAt_of (RowRep.mono x5 _ _ hr) hl (fun j v hj => ?_) (fun j hj => by rw [x3]; trivial) h1⟩⟩
  have hh : X'.w.heap[X.w.heap.size]? = some (.cells us.toArray el mk) := by
    rw [x2]; show (X.w.heap.push _)[X.w.heap.size]? = _; simp
  have : X'.w.cell? ⟨X.w.heap.size, 0 + j, none⟩ = us.toArray[0 + j]? := by
    simp [World.cell?, hh]
  rw [this, Nat.zero_add]; simpa using hj
/-- A constant text, as bytes. -/
theorem rl_litb {ty el : TypeId} {len d d2 : Nat} {ps : Array (Nat × Operand)} {zs : List Value} {z : Value} {cs : List V} {xs : List (List V)} (hg : o.guard = none) (hd : o.dst = some d) (hN : Nat.blt d N = true) (ho : o.op = .buildSlice ty len ps)
    (hg2 : o2.guard = none) (hd2 : o2.dst = some d2) (hN2 : Nat.blt d2 N = true) (ho2 : o2.op = .convert ty ty (.tmp d)) (hu : P.underlying ty = some (.slice el)) (hue : P.underlying el = some (.int .u8)) (he : (P.info? el).map (·.size) = some 1)
    (hz : (P.info? el).bind (·.zero) = some z) (hzs : ((Array.range (len * 1)).map (z.cells[· % z.cells.size]!)).toList = zs) (h1 : zs.all oneV = true) (hlim : len * 1 ≤ 2 ^ 24)
    (hc : fillV (fun i => some (i * 1, 1)) (zs.map V.sc) (ps.toList.map fun p => (p.1, ev (mk l) p.2)) = some cs) (hxs : rowsOf 1 len cs = xs)
    (h : RunsL P B N ops L ⟨mk ((d2, .fl 1 xs) :: (d, .fl 1 xs) :: l), n, bx⟩ Q) : RunsL P B N ops (o :: o2 :: L) ⟨mk l, n, bx⟩ Q := by
  intro X a hst
  have hop : ∀ p ∈ ps.toList, VRep X (ev (mk l) p.2) (a.eval p.2) := fun p hp => ev_rep hst.t p.2
  obtain ⟨us', k1, k2, k3, k4⟩ := rep_fill (X := X) (place := fun i => some (i * 1, 1)) _ (ps.toList.map fun p => (p.1, a.eval p.2)) _ cs zs (by simp) (rowRep_ops ps.toList hop) (rowRep_sc X zs) (by simpa [List.all_eq_true] using h1) hc
  have hzl : zs.length = len * 1 := by rw [← hzs]; simp
  have hcl : cs.length = len * 1 := by rw [k2.length, k4, hzl]
  obtain ⟨f1, f2⟩ := rowsOf_flat 1 len cs hcl
  rw [hxs] at f1 f2
  have hxl : xs.length = len := by
    rw [← hxs]
    exact rowsOf_len 1 len cs
  obtain ⟨X', x1, x2, x4, x5, x6⟩ := fl_newM (el := el) (us'.toArray.size, us'.toArray.size + 1) hst.rr (by rw [f1]; exact k2) f2 k3
  have hrun : (Instr.buildSlice ty len (ps.map fun (i, x) => (i, a.eval x))).run P X.w = .ok (.slice (some ⟨X.w.heap.size, 0, none⟩) xs.length xs.length) (X.w.alloc (.cells us'.toArray el)) := by
    unfold Instr.buildSlice
    simp only [Sem.run_bind, run_under hu, Result.andThen_ok, run_size he]
    rw [if_neg (by omega)]
    have e2 : (ps.map fun x => match x with | (i, x) => (i, a.eval x)).toList = ps.toList.map fun p => (p.1, a.eval p.2) := by simp
    simp only [e2]
    have e5 : ∀ zz : Array Value, (len * 1 = 0 ∨ zz = z.cells) → ((Array.range (len * 1)).map fun x => zz[x % zz.size]!) = zs.toArray := by
      intro zz hzz
      rw [← hzs]
      by_cases h0 : len * 1 = 0
      · simp [h0]
      · rcases hzz with hzz | rfl
        · exact absurd hzz h0
        · rw [Array.toArray_toList]
    by_cases h0 : len * 1 = 0
    · rw [if_pos h0]
      simp only [Sem.run_bind, Sem.run_pure, Result.andThen_ok, e5 #[] (.inl h0), k1]
      rw [hxl]
      rfl
    · rw [if_neg h0]
      simp only [Sem.run_bind, run_zero hz, Sem.run_pure, Result.andThen_ok, e5 z.cells (.inr rfl), k1]
      rw [hxl]
      rfl
  have hrun2 := Lib.run_convert_bytes_const (P := P) X.w ty el us'.toArray xs.length xs.length hu hue
  rw [← x2] at hrun2
  refine wpListIn_plain hg fun K hK => wpIn_of_wp B.R (.inr fun c hc => by rw [ho] at hc; cases hc) ?_
  unfold Oper.wp
  rw [exec_run (exec_buildSlice ho) hrun]
  refine hK _ _ (wpListIn_plain hg2 fun K2 hK2 => wpIn_of_wp B.R (.inr fun c hc => by rw [ho2] at hc; cases hc) ?_)
  unfold Oper.wp
  have hd' : d < a.tmps.size := by rw [hst.N]; exact Nat.blt_eq ▸ (by simpa using hN)
  have hev : (a.put o.dst (.slice (some ⟨X.w.heap.size, 0, none⟩) xs.length xs.length)).eval (.tmp d) = .slice (some ⟨X.w.heap.size, 0, none⟩) xs.length xs.length := by
    rw [hd]; simp [Act.put, Act.eval, hd']
  rw [exec_run (exec_convert ho2) (by rw [hev]; exact hrun2)]
  have s1 := hst.put (dst := o.dst) (by rw [hd]; exact hN) x4 (up := []) x1 x5 x6
  have s2 := s1.put (dst := o2.dst) (by rw [hd2]; exact hN2) x4 (up := []) rfl (Ext.refl _) x6
  refine hK2 _ _ (h X' _ ?_)
  rw [hd, hd2] at s2
  rw [hd, hd2]; exact s2
end
end Go.Vm
