/- Texts of the walk by hand, merged. -/
import Derived.Test.YtnhkpolfkmpldaaPAllx0
import Derived.Laws.PanicsMore
import Derived.Laws.NewBlocks
import Derived.Test.YtnhkpolfkmpldaaPAllx17
import Derived.Test.YtnhkpolfkmpldaaPAllx3
import Derived.Test.YtnhkpolfkmpldaaPAllx4
import Derived.Test.YtnhkpolfkmpldaaPAllx5
import Derived.Test.YtnhkpolfkmpldaaPAllx28
import Derived.Test.YtnhkpolfkmpldaaPAllx29
import Derived.Test.YtnhkpolfkmpldaaPAllx6
import Derived.Test.YtnhkpolfkmpldaaPAllx8
import Derived.Test.YtnhkpolfkmpldaaPAllx9
import Derived.Test.YtnhkpolfkmpldaaPAllx10
import Derived.Test.YtnhkpolfkmpldaaPAllx14
import Derived.Test.YtnhkpolfkmpldaaPAllx31
import Derived.Test.YtnhkpolfkmpldaaPAllx32
import Derived.Test.YtnhkpolfkmpldaaPAllx35
/- Cells of one's own: stores and loads of whole values, results, calls of captured functions. -/
namespace Go.Proofs.Ytnhkpolfkmpldaa.PAll
open Go.RowKit Go.Proofs.YtnhkpolfkmpldaaW.PrintWords Go.Proofs.YtnhkpolfkmpldaaW.PrintLast Go.Proofs.YtnhkpolfkmpldaaW.PrintMore
set_option linter.unusedVariables false
set_option linter.unusedSimpArgs false

/-- A call of a function value that holds captured values, in a region that draws. -/
theorem goesC_ {P : Program} {ops : Array Oper} {Q : Exit → Act → World → Prop} {oi : Oper} {N : Option Tmp} {a : Act} {w : World} {K : Act → World → Prop} {f : FuncId} {fn : Func} {c : Operand} {cap : Array Value} (hf : P.funcs[f]? = some fn) (hname : (fn.name == "runtime.NumGoroutine") = false) (hb : fn.body.isSome = true)
    (hw : Region.wanted oi (yielded ops a.tmps) = true) (hN : oi.dst = N) (hop : oi.op = .call { callee := .value c, args := #[], argTypes := #[] }) (hc : a.eval c = .func (.func f) #[] cap)
    (h : Calls P f cap w fun e w' => ∃ v, e = .returned v ∧ K (a.put N v) w') : if Region.wanted oi (yielded ops a.tmps) = true then Oper.wp P oi a w K Q else K (a.put N undef) w := by
  refine call_ f cap hw hN ?_ h
  have he := enters_ hf hname hb cap w
  unfold execOp
  simp [hop, resolve, Deferred.ofValue, invoke, hc, he]
/-- Block g alone has changed. -/
def Wrote (g : Nat) (w w1 : World) : Prop := w1.os = w.os ∧ w1.tape = w.tape ∧ w1.output = w.output ∧ w1.heap.size = w.heap.size ∧ ∀ k, k ≠ g → w1.heap[k]? = w.heap[k]?
theorem Wrote.below {g B : Nat} {w0 w w1 : World} (h : Wrote g w w1) (hb : Below B w0 w) (hB : B ≤ g) : Below B w0 w1 :=
  hb.trans ⟨h.1, h.2.1, h.2.2.1, by rw [h.2.2.2.1]; exact Nat.le_refl _, fun k hk => h.2.2.2.2 k (by omega)⟩
theorem Wrote.keepBut {g : Nat} {w w1 : World} (h : Wrote g w w1) : KeepBut w w1 g none := ⟨by rw [h.2.2.2.1]; exact Nat.le_refl _, fun i _ hi _ => h.2.2.2.2 i hi⟩
theorem Wrote.blk {g k : Nat} {w w1 : World} (h : Wrote g w w1) (hk : k ≠ g) {o : Option Obj} (hb : w.heap[k]? = o) : w1.heap[k]? = o := (h.2.2.2.2 k hk).trans hb
theorem run_seg {P : Program} {w : World} {g off : Nat} {e : TypeId} {cur new : Array Value} (t : TypeId) (u : Value) (hh : w.heap[g]? = some (.cells cur e (0, 0))) (ht : (P.info? t).map (·.size) = some u.cells.size)
    (hfit : off + u.cells.size ≤ cur.size) (h1 : ∀ q ∈ u.cells.toList, q.oneCell' = true) (hnew : cur.toList.take off ++ u.cells.toList ++ cur.toList.drop (off + u.cells.size) = new.toList) :
    ∃ w1, (Instr.storeAt t (.pointer (some ⟨g, off, none⟩)) u).run P w = .ok () w1 ∧ Wrote g w w1 ∧ w1.heap[g]? = some (.cells new e (0, 0)) := by
  obtain ⟨cur', h2, h3, h4⟩ := setCells_row u.cells.toList off w cur hh (by simpa using hfit)
  obtain ⟨a1, a2, a3, a4⟩ := setCells_same g u.cells.toList off w
  have e1 : cur' = new := by
    rw [Array.length_toList] at h4
    rw [hnew] at h4
    exact Array.toList_inj.1 h4
  exact ⟨_, run_store_run t u u.cells.toList hh rfl (by simpa using ht) (by simpa using hfit) h1, ⟨a1, a2, a3, a4, fun k hk => setCells_far _ _ k hk⟩, e1 ▸ h2⟩
section
variable {P : Program} {ops : Array Oper} {rest : List Oper} {o : Oper} {a : Act} {Q : Exit → Act → World → Prop}
/-- A store of cells into a row: the world as a letter. -/
theorem wpList_seg {w : World} (hgd : o.guard = none) (ty : TypeId) (x y : Operand) (ho : o.op = .store ty x y) (hd : o.dst = none) (g off : Nat) (hx : a.eval x = .pointer (some ⟨g, off, none⟩)) (u : Value) (hy : a.eval y = u)
    (e : TypeId) (cur new : Array Value) (hh : w.heap[g]? = some (.cells cur e (0, 0))) (ht : (P.info? ty).map (·.size) = some u.cells.size) (hfit : off + u.cells.size ≤ cur.size) (h1 : ∀ q ∈ u.cells.toList, q.oneCell' = true)
    (hnew : cur.toList.take off ++ u.cells.toList ++ cur.toList.drop (off + u.cells.size) = new.toList)
    (h : ∀ w1, Wrote g w w1 → w1.heap[g]? = some (.cells new e (0, 0)) → wpList P ops Q rest a w1) : wpList P ops Q (o :: rest) a w := by
  obtain ⟨w1, hr, hw, hn⟩ := run_seg (P := P) ty u hh ht hfit h1 hnew
  refine wpList_plain hgd fun K hK => ?_
  unfold Oper.wp execOp
  simp only [ho, hx, hy, Sem.run_bind, Sem.run_pure, Result.andThen_ok, hr]
  have := h w1 hw hn
  exact hK _ _ (by rw [hd]; exact this)
/-- The same in a region that draws. -/
theorem step_seg {w : World} {K : Act → World → Prop} (hw : Region.wanted o (yielded ops a.tmps) = true) (ty : TypeId) (x y : Operand) (ho : o.op = .store ty x y) (hd : o.dst = none) (g off : Nat) (hx : a.eval x = .pointer (some ⟨g, off, none⟩)) (u : Value) (hy : a.eval y = u)
    (e : TypeId) (cur new : Array Value) (hh : w.heap[g]? = some (.cells cur e (0, 0))) (ht : (P.info? ty).map (·.size) = some u.cells.size) (hfit : off + u.cells.size ≤ cur.size) (h1 : ∀ q ∈ u.cells.toList, q.oneCell' = true)
    (hnew : cur.toList.take off ++ u.cells.toList ++ cur.toList.drop (off + u.cells.size) = new.toList)
    (h : ∀ w1, Wrote g w w1 → w1.heap[g]? = some (.cells new e (0, 0)) → K a w1) : if Region.wanted o (yielded ops a.tmps) = true then Oper.wp P o a w K Q else K (a.put none undef) w := by
  obtain ⟨w1, hr, hwr, hn⟩ := run_seg (P := P) ty u hh ht hfit h1 hnew
  refine skip_ (w1 := w1) hw hd ?_ (h w1 hwr hn)
  unfold execOp
  simp only [ho, hx, hy, Sem.run_bind, Sem.run_pure, Result.andThen_ok, hr]
/-- New memory in a region that draws: the world as a letter. -/
theorem step_alloc {w : World} {K : Act → World → Prop} {N : Option Tmp} {ty : TypeId} {cells : Array Value} (hw : Region.wanted o (yielded ops a.tmps) = true) (hN : o.dst = N) (hrun : (execOp a.eval o).run P w = .ok (.value (.pointer (some ⟨w.heap.size, 0, none⟩))) (w.alloc (.cells cells ty)))
    (h : ∀ w1 gs, gs = w.heap.size → w1.heap[gs]? = some (.cells cells ty (0, 0)) → Below w.heap.size w w1 → w1.heap.size = gs + 1 → K (a.put N (.pointer (some ⟨gs, 0, none⟩))) w1) : if Region.wanted o (yielded ops a.tmps) = true then Oper.wp P o a w K Q else K (a.put N undef) w :=
  value_ hw hN hrun (h _ _ rfl (heap_alloc_new w (.cells cells ty)) (below_alloc (Below.refl _ _) _) (by simp))
end
/-- A result's cells, and a temporary. -/
theorem results_cell_tmp {P : Program} {fn : Func} {p q : Tmp} {ty : TypeId} (h : fn.results = #[.cell p ty, .tmp q]) (tmps : Array Value) (w : World) (g : Nat) (t : TypeId) (cs : Array Value) (fr : Nat × Nat) (d : TypeDesc)
    (hp : tmps.getD p undef = .pointer (some ⟨g, 0, none⟩)) (hg : w.heap[g]? = some (.cells cs t fr))
    (hu : P.underlying ty = some d) (hd : (match d with | .struct _ | .array _ _ => true | _ => false) = true) (hi : (P.info? ty).map (·.size) = some cs.size) :
    (results fn tmps).run P w = .ok (.tuple #[.agg cs, tmps.getD q undef]) w := by
  have hp' : tmps[p]?.getD undef = .pointer (some ⟨g, 0, none⟩) := by simpa using hp
  simp [results, h, hp', asAddr, run_loadVar_row w g t ty cs fr d hg hu hd hi]
end Go.Proofs.Ytnhkpolfkmpldaa.PAll

/- The reader over bytes: its methods' contracts. -/
namespace Go.Proofs.Ytnhkpolfkmpldaa.PAll
open Go.RowKit Go.Proofs.YtnhkpolfkmpldaaW.PrintWords Go.Proofs.YtnhkpolfkmpldaaW.PrintLast Go.Proofs.YtnhkpolfkmpldaaW.PrintMore
set_option linter.unusedVariables false
set_option linter.unusedSimpArgs false

/-- A reader at block g: the bytes that are left, and whether something was wrong. -/
def Rd (W : World) (g : Nat) (xs : List Int) (wr : Bool) : Prop :=
  ∃ A c, W.heap[g]? = some (.cells #[.slice A xs.length c, .bool wr] 78 (0, 0)) ∧ xs.length ≤ c ∧ Kd.C (Kd.int .u8) W A xs.length xs ∧ (∀ ad, A = some ad → 0 < xs.length → ad.block < g)
def takeF (xs : List Int) (wr : Bool) (n : Int) : List Int × List Int × Bool :=
  if wr = true ∨ n < 0 ∨ n > xs.length then ([], xs, true) else (xs.take n.toNat, xs.drop n.toNat, false)
/-- What a call of the reader's leaves: the reader's block alone may have changed. -/
def RdPost (w0 w : World) (g : Nat) (ys : List Int) (wr : Bool) (w' : World) : Prop := Rd w' g ys wr ∧ Below w0.heap.size w0 w' ∧ KeepBut w w' g none
def TakePost (w0 w : World) (g : Nat) (t : List Int × List Int × Bool) (e : Ending) (w' : World) : Prop :=
  ∃ A' c', e = .returned (.slice A' t.1.length c') ∧ t.1.length ≤ c' ∧ Kd.C (Kd.int .u8) w' A' t.1.length t.1 ∧ (∀ ad, A' = some ad → 0 < t.1.length → ad.block < g) ∧ RdPost w0 w g t.2.1 t.2.2 w'

theorem Rd.keep {W W' : World} {g : Nat} {xs : List Int} {wr : Bool} (h : Rd W g xs wr) (hb : Below W.heap.size W W') : Rd W' g xs wr := by
  obtain ⟨A, c, h1, h2, h3, h4⟩ := h
  exact ⟨A, c, blk_below h1 hb, h2, Kd.C_below h3 hb, h4⟩
theorem Rd.set_wrong {W : World} {g : Nat} {xs : List Int} {wr : Bool} (h : Rd W g xs wr) (x : Bool) : Rd (W.setCell ⟨g, 1, none⟩ (.bool x)) g xs x := by
  obtain ⟨A, c, h1, h2, h3, h4⟩ := h
  exact ⟨A, c, by simpa using blk_set h1 1 (.bool x), h2, Kd.C_keep 0 h3 (KeepBut.set_ (KeepBut.refl W g none) 1 _) (fun ad e hl => Nat.ne_of_lt (h4 ad e hl)), h4⟩
theorem kp_set {W : World} {g : Nat} (j : Nat) (u : Value) : KeepBut W (W.setCell ⟨g, j, none⟩ u) g none := KeepBut.set_ (KeepBut.refl W g none) j u

set_option maxHeartbeats 1000000 in
set_option maxRecDepth 100000 in
theorem take_c (g : Nat) (xs : List Int) (wr : Bool) (n : Int) (w0 w : World) (hI : Rd w g xs wr) (hB : Below w0.heap.size w0 w) (hg : w0.heap.size ≤ g) :
    Calls Try.prog 35 #[.pointer (some ⟨g, 0, none⟩), .int .i64 n] w (TakePost w0 w g (takeF xs wr n)) := by
  have HI := Aside0.mk hI
  obtain ⟨A, c, hb, hc, hC, hf⟩ := hI
  have hc0 : w.cell? ⟨g, 0, none⟩ = some (.slice A xs.length c) := (blk_cell hb 0).trans rfl
  have hc1 : w.cell? ⟨g, 1, none⟩ = some (.bool wr) := (blk_cell hb 1).trans rfl
  have hf0 := blk_frozen hb 0
  have hf1 := blk_frozen hb 1
  have HC := Aside0.mk hC
  clear hC
  by_cases h1 : wr = true ∨ n < 0 ∨ n > xs.length
  · have ht : takeF xs wr n = ([], xs, true) := by unfold takeF; rw [if_pos h1]
    rw [ht]
    have fin : ∀ w', w' = w.setCell ⟨g, 1, none⟩ (.bool true) → TakePost w0 w g ([], xs, true) (.returned (.slice none 0 0)) w' := by
      rintro w' rfl
      exact ⟨none, 0, rfl, by simp, Kd.C_nil _ _, by simp, HI.out.set_wrong true, below_set hB hg, kp_set _ _⟩
    go_enter Try.func35, Try.ntmps35
    cases wr with
    | true =>
      go_wp2
      go_ret
      exact fin _ rfl
    | false =>
      by_cases h2 : n < 0
      · go_wp2
        go_ret
        exact fin _ rfl
      · have h3 : n > xs.length := by simpa [h2] using h1
        go_wp2
        go_ret
        exact fin _ rfl
  · have ht : takeF xs wr n = (xs.take n.toNat, xs.drop n.toNat, false) := by unfold takeF; rw [if_neg h1]
    rw [ht]
    have hw : wr = false := by cases wr <;> simp_all
    subst hw
    have h2 : ¬ n < 0 := by omega
    have h3 : ¬ n > xs.length := by omega
    have hn : n.toNat ≤ xs.length := by omega
    have fin : ∀ A2 c2, A2 = (if c = n.toNat then A else A.map (·.add n.toNat)) → c2 = c - n.toNat → TakePost w0 w g (xs.take n.toNat, xs.drop n.toNat, false) (.returned (.slice A n.toNat n.toNat)) (w.setCell ⟨g, 0, none⟩ (.slice A2 (xs.length - n.toNat) c2)) := by
      rintro A2 c2 rfl rfl
      have hk : KeepBut w (w.setCell ⟨g, 0, none⟩ (.slice (if c = n.toNat then A else A.map (·.add n.toNat)) (xs.length - n.toNat) (c - n.toNat))) g none := kp_set 0 _
      have e1 : (xs.take n.toNat).length = n.toNat := by rw [List.length_take]; omega
      have hd := Kd.C_drop HC.out hn hc
      rw [show n.toNat * (Kd.int .u8).sz = n.toNat from Nat.mul_one _] at hd
      have ht' := Kd.C_take HC.out hn
      have hf2 : ∀ ad, (if c = n.toNat then A else A.map (·.add n.toNat)) = some ad → 0 < (xs.drop n.toNat).length → ad.block < g := by
        intro ad e2 hl
        rw [List.length_drop] at hl
        split at e2
        · exact hf ad e2 (by omega)
        · cases A with
          | none => cases e2
          | some a =>
            obtain rfl := Option.some.inj e2
            rw [add_block]
            exact hf a rfl (by omega)
      refine ⟨A, n.toNat, ?_, ?_, Kd.C_keep 0 ht' hk (fun ad e2 hl => Nat.ne_of_lt (hf ad e2 (by simp only [e1] at hl; omega))), fun ad e2 hl => hf ad e2 (by simp only [e1] at hl; omega), ⟨if c = n.toNat then A else A.map (·.add n.toNat), c - n.toNat, ?_, ?_, Kd.C_keep 0 hd hk (fun ad e2 hl => Nat.ne_of_lt (hf2 ad e2 hl)), hf2⟩, below_set hB hg, hk⟩
      · simp only [e1]
      · simp only [e1]; omega
      · have := blk_set hb 0 (.slice (if c = n.toNat then A else A.map (·.add n.toNat)) (xs.length - n.toNat) (c - n.toNat))
        simpa using this
      · simp only [List.length_drop]; omega
    go_enter Try.func35, Try.ntmps35
    go_wp2
    all_goals go_ret
    · exact fin _ _ (by simp [*]) (by simp [*])
    · exact fin _ _ (by simp [*]) (by simp [*])

theorem Rd.lt {W : World} {g : Nat} {xs : List Int} {wr : Bool} (h : Rd W g xs wr) : g < W.heap.size := by
  obtain ⟨A, c, h1, h2, h3, h4⟩ := h
  exact blk_lt h1
theorem rdPost_refl {w0 w : World} {g : Nat} {xs : List Int} {wr : Bool} (hI : Rd w g xs wr) (hB : Below w0.heap.size w0 w) {w' : World} (h : Below w.heap.size w w') : RdPost w0 w g xs wr w' :=
  ⟨hI.keep h, below_step hB h, KeepBut.of_below h g none⟩
theorem rdPost_trans {w0 w w1 w2 : World} {g : Nat} {xs ys : List Int} {wr wr' : Bool} (h1 : RdPost w0 w g xs wr w1) (h2 : RdPost w0 w1 g ys wr' w2) : RdPost w0 w g ys wr' w2 :=
  ⟨h2.1, h2.2.1, KeepBut.trans h1.2.2 h2.2.2 (.inl rfl)⟩

set_option maxHeartbeats 1000000 in
set_option maxRecDepth 100000 in
theorem right_c (g : Nat) (xs : List Int) (wr : Bool) (w0 w : World) (hI : Rd w g xs wr) (hB : Below w0.heap.size w0 w) :
    Calls Try.prog 32 #[.pointer (some ⟨g, 0, none⟩)] w fun e w' => e = .returned (.bool (!wr)) ∧ RdPost w0 w g xs wr w' := by
  have fin : ∀ w', Below w.heap.size w w' → RdPost w0 w g xs wr w' := fun w' h => rdPost_refl hI hB h
  obtain ⟨A, c, hb, hc, hC, hf⟩ := hI
  have hc1 : w.cell? ⟨g, 1, none⟩ = some (.bool wr) := (blk_cell hb 1).trans rfl
  have fin := Aside0.mk fin
  go_enter Try.func32, Try.ntmps32
  go_wp2
  go_ret
  exact ⟨rfl, fin.out _ (by repeat (first | (with_reducible first | exact Below.refl _ _ | apply below_alloc | apply pw_below_drewN | apply below_drew1) | exact Below.refl _ _))⟩
set_option maxHeartbeats 1000000 in
set_option maxRecDepth 100000 in
theorem left_c (g : Nat) (xs : List Int) (wr : Bool) (w0 w : World) (hI : Rd w g xs wr) (hB : Below w0.heap.size w0 w) :
    Calls Try.prog 33 #[.pointer (some ⟨g, 0, none⟩)] w fun e w' => e = .returned (.int .i64 (xs.length : Int)) ∧ RdPost w0 w g xs wr w' := by
  have fin : ∀ w', Below w.heap.size w w' → RdPost w0 w g xs wr w' := fun w' h => rdPost_refl hI hB h
  obtain ⟨A, c, hb, hc, hC, hf⟩ := hI
  have hc0 : w.cell? ⟨g, 0, none⟩ = some (.slice A xs.length c) := (blk_cell hb 0).trans rfl
  have fin := Aside0.mk fin
  go_enter Try.func33, Try.ntmps33
  go_wp2
  go_ret
  exact ⟨rfl, fin.out _ (by repeat (first | (with_reducible first | exact Below.refl _ _ | apply below_alloc | apply pw_below_drewN | apply below_drew1) | exact Below.refl _ _))⟩

/-- Are they noughts alone? -/
def noughts (xs : List Int) : Bool := xs.all (· == 0)
theorem rd_get {xs : List Int} {i : Nat} (h : i < xs.length) : rd xs (i : Int) = xs[i] := by
  simp [rd, List.getD_eq_getElem?_getD, List.getElem?_eq_getElem h]
theorem noughts_step {xs : List Int} {i : Nat} (h : i < xs.length) (h1 : noughts (xs.take i) = true) (h2 : rd xs (i : Int) = 0) : noughts (xs.take (i + 1)) = true := by
  rw [rd_get h] at h2
  unfold noughts at *
  rw [List.take_add_one, List.all_append, h1, List.getElem?_eq_getElem h]
  simp [h2]
theorem noughts_not {xs : List Int} {i : Nat} (h : i < xs.length) (h2 : ¬ rd xs (i : Int) = 0) : noughts xs = false := by
  rw [rd_get h] at h2
  unfold noughts
  rw [List.all_eq_false]
  exact ⟨xs[i], List.getElem_mem h, by simpa using h2⟩
theorem noughts_all {xs : List Int} {i : Nat} (h : ¬ i < xs.length) (h1 : noughts (xs.take i) = true) : noughts xs = true := by
  rwa [List.take_of_length_le (by omega)] at h1
/-- The number that bytes are, as the program tells it. -/
def getL (n : Int) (xs : List Int) : Int := xs.foldl (fun n c => Go.bits .or .u64 (IntKind.u64.wrap (n * 256)) (IntKind.u64.wrap c)) n
def getN (xs : List Int) : Int := getL 0 (xs.drop (xs.length - 8))
theorem get_l0 (xs : List Int) (hl : xs.length ≤ 9223372036854775806) : ∀ (m i : Nat) (n : Int), i + m = xs.length → word_Get.l0 (m + 1) n xs (xs.length : Int) (i : Int) = some (getL n (xs.drop i))
  | 0, i, n, h => by
    unfold word_Get.l0
    rw [if_neg (by omega), List.drop_of_length_le (by omega)]
    rfl
  | m + 1, i, n, h => by
    unfold word_Get.l0
    have e1 : wrap64 ((i : Int) + 1) = ((i + 1 : Nat) : Int) := by unfold wrap64; omega
    rw [if_pos (by omega), if_pos (by omega), if_pos (by omega), e1, get_l0 xs hl m (i + 1) _ (by omega), rd_get (by omega : i < xs.length)]
    conv => rhs; rw [List.drop_eq_getElem_cons (by omega : i < xs.length)]
    rfl
theorem get_f (xs : List Int) (hl : xs.length ≤ 9223372036854775806) : word_Get.f (xs.length + 1) xs = some (getN xs) := by
  unfold word_Get.f getN
  have e : mx (wrap64 ((xs.length : Int) - 8)) 0 = ((xs.length - 8 : Nat) : Int) := by unfold mx wrap64; omega
  rw [e, if_pos (by omega), if_pos (by omega), Int.toNat_natCast]
  have hd : (xs.drop (xs.length - 8)).length = xs.length - (xs.length - 8) := List.length_drop
  have := get_l0 (xs.drop (xs.length - 8)) (by omega) (xs.drop (xs.length - 8)).length 0 0 (by omega)
  rw [List.drop_zero] at this
  have hm : ∀ j r, word_Get.l0 ((xs.drop (xs.length - 8)).length + 1) 0 (xs.drop (xs.length - 8)) ((xs.drop (xs.length - 8)).length : Int) 0 = some r → word_Get.l0 ((xs.drop (xs.length - 8)).length + 1 + j) 0 (xs.drop (xs.length - 8)) ((xs.drop (xs.length - 8)).length : Int) 0 = some r := by
    intro j
    induction j with
    | zero => exact fun r h => h
    | succ j ih => exact fun r h => word_Get.mono_l _ _ _ _ _ _ (ih r h)
  have h2 := hm (xs.length + 1 - ((xs.drop (xs.length - 8)).length + 1)) _ this
  rwa [show (xs.drop (xs.length - 8)).length + 1 + (xs.length + 1 - ((xs.drop (xs.length - 8)).length + 1)) = xs.length + 1 by omega] at h2

set_option maxHeartbeats 1000000 in
set_option maxRecDepth 100000 in
theorem num_c (g : Nat) (xs : List Int) (bad : Bool) (n : Int) (w0 w : World) (hI : Rd w g xs bad) (hB : Below w0.heap.size w0 w) (hg : w0.heap.size ≤ g) (hl : xs.length ≤ 9223372036854775806) :
    Calls Try.prog 30 #[.pointer (some ⟨g, 0, none⟩), .int .i64 n] w fun e w' => e = .returned (.int .u64 (getN (takeF xs bad n).1)) ∧ RdPost w0 w g (takeF xs bad n).2.1 (takeF xs bad n).2.2 w' := by
  have ht := Aside0.mk (take_c g xs bad n w0 w hI hB hg)
  have hl1 : (takeF xs bad n).1.length ≤ 9223372036854775806 := by
    unfold takeF; split
    · simp
    · simp only [List.length_take]; omega
  generalize takeF xs bad n = t at ht hl1 ⊢
  go_enter Try.func30, Try.ntmps30
  go_wp2_with fail
  refine ht.out.mono ?_
  rintro e w1 ⟨A1, c1, rfl, hc1, hC1, hf1, hP⟩
  have hP := Aside0.mk hP
  have hC1 := Aside0.mk hC1
  go_wp2_with fail
  refine (word_Get.calls (t.1.length + 1) A1 c1 t.1 (getN t.1) w1 hC1.out hc1 (get_f _ hl1)).mono ?_
  rintro e w2 ⟨rfl, hb⟩
  go_wp2
  go_ret
  exact ⟨rfl, rdPost_trans hP.out (rdPost_refl hP.out.1 hP.out.2.1 hb)⟩

set_option maxHeartbeats 1000000 in
set_option maxRecDepth 100000 in
theorem read_c (A0 : Option Addr) (c0 : Nat) (l0 : List Int) (w : World) (hr0 : Kd.C (Kd.int .u8) w A0 l0.length l0) (hc0 : l0.length ≤ c0) (hl : l0.length < 140737488355328) :
    Calls Try.prog 34 #[.slice A0 l0.length c0] w fun e w' => ∃ g, e = .returned (.pointer (some ⟨g, 0, none⟩)) ∧ w.heap.size ≤ g ∧ Rd w' g l0 false ∧ Below w.heap.size w w' := by
  have HR0 := Aside0.mk hr0
  have HC0 := Aside0.mk hc0
  clear hr0 hc0
  have HB := Aside0.mk (Below.refl w.heap.size w)
  obtain ⟨y126, hy126⟩ : ∃ y_ : List Int, y_ = (([] : List Int)) := ⟨_, rfl⟩
  have LMc4 := Aside0.mk (show y126.length + l0.length < 140737488355328 by subst hy126; simpa using hl)
  have Ny126 := Aside0.mk hy126
  clear hy126
  obtain ⟨y129, hy129⟩ : ∃ y_ : List Int, y_ = (y126 ++ l0) := ⟨_, rfl⟩
  have Ny129 := Aside0.mk hy129
  clear hy129
  have fin : ∀ (W : World) (v : Value), Below w.heap.size w W → Kd.R (Kd.int .u8) 5 W w.heap.size (fun _ => True) v y129 →
      ∃ g, Ending.returned (.pointer (some ⟨W.heap.size, 0, none⟩)) = .returned (.pointer (some ⟨g, 0, none⟩)) ∧ w.heap.size ≤ g ∧ Rd (W.alloc (.cells #[v, .bool false] 78)) g l0 false ∧ Below w.heap.size w (W.alloc (.cells #[v, .bool false] 78)) := by
    intro W v hB hR
    have hy : y129 = l0 := by rw [Ny129.out, Ny126.out]; rfl
    rw [hy] at hR
    obtain ⟨A, c, rfl⟩ := Kd.R_slice hR
    have hr := Kd.R_reads' hR
    refine ⟨W.heap.size, rfl, hB.size, ⟨A, c, by simpa using heap_alloc_new W _, hr.2.1, Kd.C_below hr.2.2 (below_alloc (Below.refl _ _) _), ?_⟩, below_alloc hB _⟩
    rintro ad rfl hp
    have hx := (Kd.reads_of_C (enc := Value.int .u8) (d := (0 : Int)) (h1 := fun _ => rfl) hr.2.2).2.2 hp
    obtain ⟨ad', e', hx⟩ := hx
    cases e'
    have := World.block_lt_of_cell? W _ (hx 0 hp)
    rw [add_block] at this
    exact this
  have fin := Aside0.mk fin
  go_enter Try.func34, Try.ntmps34
  go_wp2_with (first | ((with_reducible refine gate_dst (N := 3) rfl ?_); refine Kd.R_lit (Kd.int .u8) _ 5 ?hg (N := 3) ?hd (xs := ([] : List Int)) (inner := []) (ok := fun _ => True) (okp := fun _ => True) ?hr ?hp (fun _ hk => hk) trivial (Below.refl _ _) (Nat.le_refl _) (by simp) ?_; (case hd => rfl); (case hg => rfl); (case hr => first | (go_simp; done) | (go_simp; rfl)); (case hp => exact (Reps.none _ _)); intro v127 w5 ho6 hb hg_ hnew_; clear hg_ hnew_; (first | rw [← Ny126.out] at ho6 | (simp only [Int.reduceToNat] at ho6; rw [← Ny126.out] at ho6)); have n0_ := Aside0.mk (Kd.R_lower ho6 (below_size (by repeat (first | (with_reducible first | exact HB.out | apply below_alloc | apply pw_below_drewN | apply below_drew1) | exact HB.out)))); have n1_ := Aside0.mk (below_step (by repeat (first | (with_reducible first | exact HB.out | apply below_alloc | apply pw_below_drewN | apply below_drew1) | exact HB.out)) hb); clear HB; have HO128 := n0_; have HB := n1_; clear n0_ n1_; clear hb ho6) | ((with_reducible refine gate_builtin (b := .append) (xs := #[.tmp 3, .tmp 4]) rfl ?_); at_builtin; refine Kd.R_append_rows (Kd.int .u8) (w0 := w) w.heap.size rfl (.tmp 3) (.tmp 4) 34 5 (.int .u8 0) 1 rfl Try.underlying34 info5 rfl (by decide) (by omega) v127 y126 l0 _ _ _ (fun _ => True) (fun _ => False) rfl rfl ?aO ?aR (fun _ _ h => h) (fun _ h => h.elim) ?aF ?aB ?aS ?aL ?_; (case aR => repeat (first | exact (Kd.C_below HR0.out HB.out) | (with_reducible refine Kd.C_alloc ?_ _) | (with_reducible refine Kd.C_drewN ?_ _) | (with_reducible refine Kd.C_drew ?_))); (case aB => exact (by repeat (first | (with_reducible first | exact HB.out | apply below_alloc | apply pw_below_drewN | apply below_drew1) | exact HB.out))); (case aF => exact (fun _ _ => trivial)); (case aO => exact (by (with_reducible repeat (first | apply Kd.R_alloc | apply Kd.R_drewN | apply Kd.R_drew)); exact HO128.out)); (case aS => exact (below_size (by repeat (first | (with_reducible first | exact HB.out | apply below_alloc | apply pw_below_drewN | apply below_drew1) | exact HB.out)))); (case aL => have := LMc4.out; omega); intro v130 w7 ho hb hg hat; obtain ⟨A130, c130, rfl⟩ := Kd.R_slice ho; rw [← Ny129.out] at ho; have n0_ := Aside0.mk (hb); have n1_ := Aside0.mk (ho); clear HB; clear HO128; have HB := n0_; have HO131 := n1_; clear n0_ n1_; clear ho hb hg hat))
  go_ret
  have hlen : y129.length = y126.length + l0.length := by rw [Ny129.out, List.length_append]
  have HO := HO131.out
  rw [hlen] at HO
  exact fin.out _ _ HB.out HO

end Go.Proofs.Ytnhkpolfkmpldaa.PAll

/- The reader over bytes: the text of a field. -/
namespace Go.Proofs.Ytnhkpolfkmpldaa.PAll
open Go.RowKit Go.Proofs.YtnhkpolfkmpldaaW.PrintWords Go.Proofs.YtnhkpolfkmpldaaW.PrintLast Go.Proofs.YtnhkpolfkmpldaaW.PrintMore
set_option linter.unusedVariables false
set_option linter.unusedSimpArgs false

/-- Bytes. -/
def Bytes (xs : List Int) : Prop := ∀ x ∈ xs, 0 ≤ x ∧ x < 256
/-- The text of a field, and whether it is one. -/
def fieldF (b : List Int) : Option (List Int) :=
  if b.length < 1 ∨ rd b 0 ≥ b.length then none else if noughts (b.drop (1 + (rd b 0).toNat)) then some ((b.take (1 + (rd b 0).toNat)).drop 1) else none
/-- What Text tells of what Take told: the text, what is left, and whether something was wrong. -/
def textG (t : List Int × List Int × Bool) : List Int × List Int × Bool :=
  match t.2.2, fieldF t.1 with
  | false, some s => (s, t.2.1, false)
  | _, _ => ([], t.2.1, true)
def textF (xs : List Int) (bad : Bool) (n : Int) : List Int × List Int × Bool := textG (takeF xs bad n)
theorem textG_bad (b ys : List Int) : textG (b, ys, true) = ([], ys, true) := by unfold textG; rfl
theorem textG_none {b ys : List Int} (h : fieldF b = none) : textG (b, ys, false) = ([], ys, true) := by unfold textG; simp [h]
theorem textG_some {b ys s : List Int} (h : fieldF b = some s) : textG (b, ys, false) = (s, ys, false) := by unfold textG; simp [h]

theorem rdPost_wrong {w0 w w1 : World} {g : Nat} {xs : List Int} {bad : Bool} (hg : w0.heap.size ≤ g) (h : RdPost w0 w g xs bad w1) : RdPost w0 w g xs true (w1.setCell ⟨g, 1, none⟩ (.bool true)) :=
  ⟨h.1.set_wrong true, below_set h.2.1 hg, KeepBut.set_ h.2.2 1 _⟩

set_option maxHeartbeats 1000000 in
set_option maxRecDepth 100000 in
theorem text_c (g : Nat) (xs : List Int) (bad : Bool) (n : Int) (w0 w : World) (hI : Rd w g xs bad) (hB : Below w0.heap.size w0 w) (hg : w0.heap.size ≤ g) (hl : xs.length ≤ 9223372036854775806) (hx : Bytes xs) :
    Calls Try.prog 31 #[.pointer (some ⟨g, 0, none⟩), .int .i64 n] w fun e w' => e = .returned (.string (strOfNums (textF xs bad n).1)) ∧ RdPost w0 w g (textF xs bad n).2.1 (textF xs bad n).2.2 w' := by
  have ht := Aside0.mk (take_c g xs bad n w0 w hI hB hg)
  have hl1 : (takeF xs bad n).1.length ≤ 9223372036854775806 := by
    unfold takeF; split
    · simp
    · simp only [List.length_take]; omega
  have hx1 : Bytes (takeF xs bad n).1 := by
    unfold takeF; split
    · intro x h; cases h
    · exact fun x h => hx x (List.mem_of_mem_take h)
  unfold textF
  generalize takeF xs bad n = t at ht hl1 hx1 ⊢
  obtain ⟨b, ys, bd⟩ := t
  simp only at *
  go_enter Try.func31, Try.ntmps31
  go_wp2_with fail
  refine ht.out.mono ?_
  rintro e w1 ⟨A1, c1, rfl, hc1, hC1, hf1, hP⟩
  replace hC1 : Kd.C (Kd.int .u8) w1 A1 b.length b := hC1
  replace hc1 : b.length ≤ c1 := hc1
  replace hf1 : ∀ ad, A1 = some ad → 0 < b.length → ad.block < g := hf1
  replace hP : RdPost w0 w g ys bd w1 := hP
  replace hP := Aside0.mk hP
  replace hC1 := Aside0.mk hC1
  have hcw : w1.cell? ⟨g, 1, none⟩ = some (.bool bd) ∧ w1.frozen? ⟨g, 1, none⟩ = false := by
    obtain ⟨A, c, h1, _⟩ := hP.out.1
    exact ⟨(blk_cell h1 1).trans rfl, blk_frozen h1 1⟩
  obtain ⟨hcw, hfw⟩ := hcw
  have bad_ := Aside0.mk (rdPost_wrong hg hP.out)
  by_cases hbd : bd = true
  · subst hbd
    go_wp2
    go_ret
    exact ⟨by first | rfl | simp, bad_.out⟩
  · replace hbd : bd = false := by simpa using hbd
    subst hbd
    by_cases h1 : b.length < 1
    · have q1 := eq_true (show (b.length : Int) < 1 by omega)
      have hF : fieldF b = none := by unfold fieldF; rw [if_pos (.inl h1)]
      go_wp2
      go_ret
      rw [textG_none hF]
      exact ⟨rfl, bad_.out⟩
    · have q1 := eq_false (show ¬ (b.length : Int) < 1 by omega)
      obtain ⟨ad, e, hx0⟩ := Kd.at_int hC1.out 0 (by decide) (by omega)
      cases e
      obtain ⟨m, hm⟩ : ∃ m : Nat, rd b 0 = m := by
        have := hx1 (rd b 0) (by rw [show (0 : Int) = ((0 : Nat) : Int) from rfl, rd_get (by omega : 0 < b.length)]; exact List.getElem_mem _)
        exact ⟨(rd b 0).toNat, by omega⟩
      have hm2 : m < 256 := by
        have := hx1 (rd b 0) (by rw [show (0 : Int) = ((0 : Nat) : Int) from rfl, rd_get (by omega : 0 < b.length)]; exact List.getElem_mem _)
        omega
      rw [hm] at hx0
      simp at hx0
      rw [show ad.add 0 = ad by unfold Addr.add; cases ad; simp] at hx0
      have q2 : 0 < b.length := by omega
      have e1 : wrap64 (m : Int) = m := by unfold wrap64; omega
      have e2 : wrap64 (1 + (m : Int)) = 1 + (m : Int) := by unfold wrap64; omega
      by_cases h2 : m ≥ b.length
      · have q3 := eq_true (show (b.length : Int) ≤ (m : Int) by omega)
        have q3' := eq_true h2
        have hF : fieldF b = none := by unfold fieldF; rw [if_pos (.inr (by omega))]
        go_wp2
        go_ret
        rw [textG_none hF]
        exact ⟨rfl, bad_.out⟩
      · have q3 := eq_false (show ¬ (b.length : Int) ≤ (m : Int) by omega)
        have q3' := eq_false h2
        have q4 := eq_true (show 0 ≤ 1 + (m : Int) by omega)
        have q5 := eq_true (show 1 + (m : Int) ≤ (b.length : Int) by omega)
        obtain ⟨i0, hi0, _, hsz, _⟩ := info_parts info5
        obtain ⟨A5, hcut5, hA5, hC5⟩ := print_drop_of (P := Try.prog) (Value.int .u8) 0 34 5 .i64 Try.underlying34 hi0 hsz (some ad) c1 b (1 + (m : Int)) (by omega) (by omega) hc1
        have HR5 := Kd.C_of_reads (h1 := fun _ => rfl) (hA5 _ (Kd.reads_of_C hC1.out))
        obtain ⟨A6, hcut6, hA6, hC6⟩ := print_mid_of (P := Try.prog) (Value.int .u8) 0 34 5 .i64 .i64 Try.underlying34 hi0 hsz (some ad) c1 b 1 (1 + (m : Int)) (by omega) (by omega) (by omega) hc1
        have HR6 := Kd.C_of_reads (h1 := fun _ => rfl) (hA6 _ (Kd.reads_of_C hC1.out))
        have ej : (1 + (m : Int)).toNat = 1 + m := by omega
        have ej1 : (1 : Int).toNat = 1 := rfl
        rw [ej] at hcut5 HR5 hC5 hcut6 HR6 hC6
        rw [ej1] at hcut6 HR6 hC6
        have l5 : (b.drop (1 + m)).length = b.length - (1 + m) := List.length_drop
        have l6 : ((b.take (1 + m)).drop 1).length = m := by rw [List.length_drop, List.length_take]; omega
        rw [l5] at hcut5
        rw [l6] at hcut6
        replace HR5 := Aside0.mk HR5
        replace HR6 := Aside0.mk HR6
        have step_ : ∀ w', Below w1.heap.size w1 w' → RdPost w0 w g ys false w' := fun w' h => rdPost_trans hP.out (rdPost_refl hP.out.1 hP.out.2.1 h)
        replace step_ := Aside0.mk step_
        have hcw' := Aside0.mk hcw
        have hfw' : ∀ w', RdPost w0 w g ys false w' → w'.frozen? ⟨g, 1, none⟩ = false := by
          intro w' h
          obtain ⟨A, c, h1, _⟩ := h.1
          exact blk_frozen h1 1
        replace hfw' := Aside0.mk hfw'
        have hfield : fieldF b = if noughts (b.drop (1 + m)) then some ((b.take (1 + m)).drop 1) else none := by
          unfold fieldF
          rw [if_neg (by omega), hm, Int.toNat_natCast]
        replace hfield := Aside0.mk hfield
        generalize hz : b.drop (1 + m) = zs at HR5 l5 hfield hA5
        clear hA5 hA6 hz hi0 hsz
        go_wp2
        go_loopg [42] (zs.length) (fun kq v42 w' => ∃ (i : Nat), v42 = .int .i64 (i : Int) ∧ Aside0 (kq + i = zs.length) ∧ Aside0 (noughts (zs.take i) = true) ∧ Aside0 (Below w1.heap.size w1 w'))
        case atStart => exact ⟨0, rfl, ⟨by omega⟩, ⟨by simp [noughts]⟩, ⟨by repeat (first | (with_reducible first | exact Below.refl _ _ | apply below_alloc | apply pw_below_drewN | apply below_drew1) | exact Below.refl _ _)⟩⟩
        case round =>
          clear hx0
          obtain ⟨i, rfl, HK1, HN, HB⟩ := hrel
          have hcr : wr.cell? ⟨g, 1, none⟩ = some (.bool false) := pw_cell_below HB.out hcw'.out
          have hfr := hfw'.out _ (step_.out _ HB.out)
          by_cases hi : i < zs.length
          · obtain ⟨k1, rfl⟩ : ∃ k1, gk = k1 + 1 := ⟨gk - 1, by have := HK1.out; omega⟩
            have p1 := eq_true (show (i : Int) < ((b.length - (1 + m) : Nat) : Int) by omega)
            have p1' := eq_true (show i < b.length - (1 + m) by omega)
            have p2 := eq_true (show 0 ≤ (i : Int) by omega)
            obtain ⟨ad5, e, hx⟩ := Kd.at_int HR5.out (i : Int) (by omega) (by omega)
            cases e
            replace hx := pw_cell_below HB.out hx
            simp only [Int.toNat_natCast] at hx
            by_cases h0 : rd zs (i : Int) = 0
            · have h0a : (rd zs (i : Int) == 0) = true := beq_iff_eq.mpr h0
              have h0b : (rd zs (i : Int) != 0) = false := bne_eq_false_iff_eq.mpr h0
              have e3 : wrap64 ((i : Int) + 1) = ((i + 1 : Nat) : Int) := by unfold wrap64; omega
              have HN2 := Aside0.mk (noughts_step hi HN.out h0)
              clear h0
              replace e3 := Aside0.mk e3
              go_wp2
              go_roundg k1
              case measure => exact Nat.lt_succ_self _
              case rel => exact ⟨i + 1, by first | rfl | rw [e3.out], ⟨by have := HK1.out; clear e1 e2 e3; omega⟩, HN2, HB⟩
            · have h0a : (rd zs (i : Int) == 0) = false := beq_eq_false_iff_ne.mpr h0
              have h0b : (rd zs (i : Int) != 0) = true := bne_iff_ne.mpr h0
              have hF : fieldF b = none := by rw [hfield.out, noughts_not hi h0]; rfl
              replace hF := Aside0.mk hF
              go_wp2
              go_ret
              rw [textG_none hF.out]
              exact ⟨rfl, rdPost_wrong hg (step_.out _ (by repeat (first | (with_reducible first | exact HB.out | apply below_alloc | apply pw_below_drewN | apply below_drew1) | exact HB.out)))⟩
          · have p1 := eq_false (show ¬ (i : Int) < ((b.length - (1 + m) : Nat) : Int) by omega)
            have p1' := eq_false (show ¬ i < b.length - (1 + m) by omega)
            have hF : fieldF b = some ((b.take (1 + m)).drop 1) := by rw [hfield.out, noughts_all hi HN.out]; rfl
            replace hF := Aside0.mk hF
            have hcv := Kd.C_string (P := Try.prog) (A := A6) (c := c1 - 1) Try.underlying34 Try.underlying5 Try.underlying9 (Kd.C_below HR6.out HB.out)
            rw [l6] at hcv
            go_wp2
            go_ret
            rw [textG_some hF.out]
            exact ⟨by first | rfl | simp, step_.out _ (by repeat (first | (with_reducible first | exact HB.out | apply below_alloc | apply pw_below_drewN | apply below_drew1) | exact HB.out))⟩
end Go.Proofs.Ytnhkpolfkmpldaa.PAll

/- Texts and numbers as bytes: plain laws. -/
namespace Go.Proofs.Ytnhkpolfkmpldaa.PAll
open Go.RowKit Go.Proofs.YtnhkpolfkmpldaaW.PrintWords Go.Proofs.YtnhkpolfkmpldaaW.PrintLast Go.Proofs.YtnhkpolfkmpldaaW.PrintMore
set_option linter.unusedVariables false
set_option linter.unusedSimpArgs false

/-- A text in a field of n bytes, and the code. -/
def fieldOf (s : ByteArray) (n : Int) : List Int := [(s.size : Int)] ++ bytesOf s ++ List.replicate (n.toNat - 1 - s.size) 0
def textC (s : ByteArray) (n : Int) : Int := if n < 1 ∨ n > 256 then 2 else if (s.size : Int) ≥ n then 9 else 0
theorem textC_2 {s : ByteArray} {n : Int} (h : n < 1 ∨ n > 256) : textC s n = 2 := by unfold textC; rw [if_pos h]
theorem textC_9 {s : ByteArray} {n : Int} (h : ¬ (n < 1 ∨ n > 256)) (h2 : (s.size : Int) ≥ n) : textC s n = 9 := by unfold textC; rw [if_neg h, if_pos h2]
theorem textC_0 {s : ByteArray} {n : Int} (h : ¬ (n < 1 ∨ n > 256)) (h2 : ¬ (s.size : Int) ≥ n) : textC s n = 0 := by unfold textC; rw [if_neg h, if_neg h2]
theorem word_text_f (k : Nat) (l0 : List Int) (s : ByteArray) (n : Int) (hl : l0.length < 1000000000) (hs : s.size < 1000000000) (hn : -9223372036854775808 ≤ n ∧ n ≤ 9223372036854775807) :
    word_Text.f (k + 1) l0 s n = some (if textC s n = 0 then l0 ++ fieldOf s n else [], textC s n) := by
  unfold word_Text.f
  by_cases h1 : n < 1
  · rw [if_pos h1, textC_2 (.inl h1)]; rw [word_Text.j0]; rfl
  · by_cases h2 : n > 256
    · rw [if_neg h1, textC_2 (.inr h2)]; rw [word_Text.j0]; simp [h2]
    · have e1 : wrap64 (wrap64 (n - 1) - (s.size : Int)) = n - 1 - s.size := by unfold wrap64; omega
      have h12 : ¬ (n < 1 ∨ n > 256) := by omega
      rw [if_neg h1]
      rw [word_Text.j0]
      rw [if_neg (by simpa using h2)]
      by_cases h3 : (s.size : Int) ≥ n
      · rw [if_pos h3, textC_9 h12 h3]; rfl
      · rw [if_neg h3, textC_0 h12 h3]
        have e2 : (s.size : Int) % 256 = s.size := by omega
        have e3 : (n - 1 - (s.size : Int)).toNat = n.toNat - 1 - s.size := by omega
        have e4 : n.toNat ≤ 256 := by omega
        simp only [Option.bind_some, e1, e2, e3, List.nil_append, List.length_nil, List.length_append, List.length_singleton, bytesOf_length]
        rw [if_pos (by omega), if_pos (by omega), if_pos (by omega), if_pos (by omega), if_pos (by omega)]
        simp [fieldOf]
theorem ref_l0 (n : Int) (hn : n ≤ 256) : ∀ (m : Nat) (xs : List Int), (xs.length : Int) + m = max n xs.length → counterpaneref01_Text.l0 (m + 1) n xs = some (xs ++ List.replicate m 0, 0)
  | 0, xs, h => by
    unfold counterpaneref01_Text.l0
    rw [if_neg (by omega)]
    simp
  | m + 1, xs, h => by
    unfold counterpaneref01_Text.l0
    rw [if_pos (by omega), if_pos (by omega), ref_l0 n hn m (xs ++ [0]) (by rw [List.length_append]; simp only [List.length_singleton]; omega)]
    rw [List.append_assoc, List.replicate_succ]
    rfl
theorem ref_text_f (s : ByteArray) (n : Int) (hs : s.size < 1000000000) (hn : -9223372036854775808 ≤ n ∧ n ≤ 9223372036854775807) :
    ∃ k, counterpaneref01_Text.f k s n = some (if textC s n = 0 then fieldOf s n else [], textC s n) := by
  by_cases h1 : n < 1
  · refine ⟨0 + 1, ?_⟩
    unfold counterpaneref01_Text.f
    rw [if_pos h1, textC_2 (.inl h1)]; rw [counterpaneref01_Text.j0]; rfl
  · by_cases h2 : n > 256
    · refine ⟨0 + 1, ?_⟩
      unfold counterpaneref01_Text.f
      rw [if_neg h1, textC_2 (.inr h2)]; rw [counterpaneref01_Text.j0]; simp [h2]
    · refine ⟨n.toNat - 1 - s.size + 2, ?_⟩
      unfold counterpaneref01_Text.f
      have e1 : wrap64 (n - 1) = n - 1 := by unfold wrap64; omega
      have h12 : ¬ (n < 1 ∨ n > 256) := by omega
      rw [if_neg h1]
      rw [counterpaneref01_Text.j0]
      rw [if_neg (by simpa using h2)]
      by_cases h3 : (s.size : Int) ≥ n
      · rw [e1, if_pos (by omega), textC_9 h12 h3]; rfl
      · have e2 : (s.size : Int) % 256 = s.size := by omega
        rw [e1, if_neg (by omega), textC_0 h12 h3]
        simp only [Option.bind_some, e2, List.length_singleton]
        rw [if_pos (by omega), ref_l0 n (by omega) (n.toNat - 1 - s.size) _ (by simp only [List.length_append, List.length_singleton, bytesOf_length]; omega)]
        simp [fieldOf]
/-- A number's lowest k bytes, the highest first. -/
def putB (n : Int) : Nat → List Int
  | 0 => []
  | k + 1 => (n / 2 ^ (8 * k)) % 256 :: putB n k
theorem putB_length (n : Int) : ∀ k, (putB n k).length = k
  | 0 => rfl
  | k + 1 => by rw [putB, List.length_cons, putB_length n k]
theorem putB_bytes (n : Int) : ∀ k, Bytes (putB n k)
  | 0 => fun x h => by cases h
  | k + 1 => fun x h => by
    rw [putB] at h
    rcases List.mem_cons.1 h with rfl | h
    · omega
    · exact putB_bytes n k x h
theorem putB_snoc (n : Int) : ∀ k, putB n (k + 1) = putB (n / 256) k ++ [n % 256]
  | 0 => by simp [putB]
  | k + 1 => by
    rw [putB, putB_snoc n k, putB]
    have e : n / 2 ^ (8 * (k + 1)) = n / 256 / 2 ^ (8 * k) := by
      rw [Int.ediv_ediv_of_nonneg (by decide)]
      congr 1
      rw [show 8 * (k + 1) = 8 + 8 * k by omega, Int.pow_add]
      rfl
    rw [e]
    rfl
theorem put_l0 (n : Int) : ∀ (k : Nat) (xs : List Int), k ≤ 8 → xs.length + k < 1000000000 → word_Put_uint64.l0 (k + 1) n xs ((k : Int) - 1) = some (xs ++ putB n k)
  | 0, xs, hk, hl => by
    rw [word_Put_uint64.l0, if_neg (by decide)]
    simp [putB]
  | k + 1, xs, hk, hl => by
    rw [word_Put_uint64.l0]
    have e0 : ((k + 1 : Nat) : Int) - 1 = (k : Int) := by omega
    have e1 : wrap64 (8 * (k : Int)) = 8 * k := by unfold wrap64; omega
    have e2 : wrap64 ((k : Int) - 1) = (k : Int) - 1 := by unfold wrap64; omega
    have e3 : shr .u64 n (8 * (k : Int)) = n / 2 ^ (8 * k) := by
      unfold shr
      have : (8 * (k : Int)).toNat = 8 * k := by omega
      rw [this, Nat.min_eq_left (by simp [IntKind.bits]; omega)]
    rw [e0, if_pos (by omega), if_neg (by omega), e1, if_pos (by omega), if_pos (by omega), e2, e3]
    have := put_l0 n k (xs ++ [n / 2 ^ (8 * k) % 256]) (by omega) (by rw [List.length_append, List.length_singleton]; omega)
    rw [this, putB]
    simp
theorem put_f (n : Int) (k : Nat) (xs : List Int) (h1 : 1 ≤ k) (h8 : k ≤ 8) (hl : xs.length < 900000000) : word_Put_uint64.f 9 xs n (k : Int) = some (xs ++ putB n k) := by
  have e1 : wrap64 ((k : Int) - 1) = (k : Int) - 1 := by unfold wrap64; omega
  have h := put_l0 n k xs h8 (by omega)
  have hm : ∀ j r, word_Put_uint64.l0 (k + 1) n xs ((k : Int) - 1) = some r → word_Put_uint64.l0 (k + 1 + j) n xs ((k : Int) - 1) = some r := by
    intro j
    induction j with
    | zero => exact fun r h => h
    | succ j ih => exact fun r h => word_Put_uint64.mono_l _ _ _ _ _ (ih r h)
  unfold word_Put_uint64.f
  simp only [Option.bind_some, List.length_nil, List.nil_append]
  rw [if_pos (by omega), e1]
  have := hm (9 - (k + 1)) _ h
  rwa [show k + 1 + (9 - (k + 1)) = 9 by omega] at this
theorem put4_l0 (n : Int) (hn : 0 ≤ n ∧ n < 18446744073709551616) : ∀ (k : Nat) (xs : List Int), k ≤ 4 → xs.length + k < 1000000000 → word_Put_uint32.l0 (k + 1) n xs ((k : Int) - 1) = some (xs ++ putB n k)
  | 0, xs, hk, hl => by
    rw [word_Put_uint32.l0, if_neg (by decide)]
    simp [putB]
  | k + 1, xs, hk, hl => by
    rw [word_Put_uint32.l0]
    have e0 : ((k + 1 : Nat) : Int) - 1 = (k : Int) := by omega
    have e1 : wrap64 (8 * (k : Int)) = 8 * k := by unfold wrap64; omega
    have e2 : wrap64 ((k : Int) - 1) = (k : Int) - 1 := by unfold wrap64; omega
    have ew : IntKind.u64.wrap n = n := by
      simp [IntKind.wrap, IntKind.bits, IntKind.signed]
      omega
    have e3 : shr .u64 (IntKind.u64.wrap n) (8 * (k : Int)) = n / 2 ^ (8 * k) := by
      rw [ew]
      unfold shr
      have : (8 * (k : Int)).toNat = 8 * k := by omega
      rw [this, Nat.min_eq_left (by simp [IntKind.bits]; omega)]
    rw [e0, if_pos (by omega), if_neg (by omega), e1, if_pos (by omega), if_pos (by omega), e2, e3]
    have := put4_l0 n hn k (xs ++ [n / 2 ^ (8 * k) % 256]) (by omega) (by rw [List.length_append, List.length_singleton]; omega)
    rw [this, putB]
    simp
theorem put4_f (n : Int) (hn : 0 ≤ n ∧ n < 18446744073709551616) (k : Nat) (xs : List Int) (h1 : 1 ≤ k) (h8 : k ≤ 4) (hl : xs.length < 900000000) : word_Put_uint32.f 9 xs n (k : Int) = some (xs ++ putB n k) := by
  have e1 : wrap64 ((k : Int) - 1) = (k : Int) - 1 := by unfold wrap64; omega
  have h := put4_l0 n hn k xs h8 (by omega)
  have hm : ∀ j r, word_Put_uint32.l0 (k + 1) n xs ((k : Int) - 1) = some r → word_Put_uint32.l0 (k + 1 + j) n xs ((k : Int) - 1) = some r := by
    intro j
    induction j with
    | zero => exact fun r h => h
    | succ j ih => exact fun r h => word_Put_uint32.mono_l _ _ _ _ _ (ih r h)
  unfold word_Put_uint32.f
  simp only [Option.bind_some, List.length_nil, List.nil_append]
  rw [if_pos (by omega), e1]
  have := hm (9 - (k + 1)) _ h
  rwa [show k + 1 + (9 - (k + 1)) = 9 by omega] at this
theorem refput_f : ∀ (k : Nat) (n : Int), 0 ≤ n → n < 18446744073709551616 → k ≤ 8 → counterpaneref01_Put.f (k + 1) n (k : Int) = some (putB n k)
  | 0, n, h0, h1, hk => by rw [counterpaneref01_Put.f, if_pos (by decide)]; rfl
  | k + 1, n, h0, h1, hk => by
    rw [counterpaneref01_Put.f, if_neg (by omega)]
    have e1 : wrap64 (((k + 1 : Nat) : Int) - 1) = (k : Int) := by unfold wrap64; omega
    have e2 : Int.tdiv n 256 = n / 256 := Int.tdiv_eq_ediv_of_nonneg h0
    have e3 : Int.tmod n 256 = n % 256 := Int.tmod_eq_emod_of_nonneg h0
    have e4 : IntKind.u64.wrap (n / 256) = n / 256 := by
      simp [IntKind.wrap, IntKind.bits, IntKind.signed]
      omega
    have hl := putB_length (n / 256) k
    rw [e1, e2, e3, e4, refput_f k (n / 256) (by omega) (by omega) (by omega)]
    simp only [Option.bind_some]
    rw [if_pos (by omega), putB_snoc]
    congr 3
    omega
theorem or_byte (n c : Int) (h0 : 0 ≤ c) (h1 : c < 256) : Go.bits .or .u64 (IntKind.u64.wrap (n * 256)) (IntKind.u64.wrap c) = IntKind.u64.wrap (IntKind.u64.wrap (n * 256) + IntKind.u64.wrap c) := by
  have w : ∀ m : Int, IntKind.u64.wrap m = m % 18446744073709551616 := fun m => by simp [IntKind.wrap, IntKind.bits, IntKind.signed]
  have hj := bits_join .u64 64 (by decide) (fun m a b => by rw [w]; omega) 8 (IntKind.u64.wrap (n * 256)) (IntKind.u64.wrap c) (by rw [w]; omega) (by rw [w]; omega) (by rw [w]; omega) (by rw [w]; omega) (by rw [w]; omega) (by rw [w]; omega)
  rw [hj]
  simp only [w]
  omega
theorem bytesOf_bytes (s : ByteArray) : Bytes (bytesOf s) := by
  intro x hx
  unfold bytesOf at hx
  obtain ⟨b, _, rfl⟩ := List.mem_map.1 hx
  have := b.toNat_lt
  omega
theorem fieldOf_length (s : ByteArray) (n : Nat) (h : s.size < n) : (fieldOf s n).length = n := by
  simp only [fieldOf, List.length_append, List.length_singleton, bytesOf_length, List.length_replicate]
  omega
theorem field_fieldOf (s : ByteArray) (n : Nat) (h : s.size < n) (hn : n ≤ 8) : fieldF (fieldOf s n) = some (bytesOf s) := by
  have hl := fieldOf_length s n h
  have h0 : rd (fieldOf s n) 0 = s.size := by simp [fieldOf, rd]
  unfold fieldF
  rw [hl, h0, if_neg (by omega), Int.toNat_natCast]
  have e : fieldOf s n = ([(s.size : Int)] ++ bytesOf s) ++ List.replicate (n - 1 - s.size) 0 := by simp [fieldOf]
  have el : ([(s.size : Int)] ++ bytesOf s).length = 1 + s.size := by simp [bytesOf_length]; omega
  rw [e, List.drop_left' el, List.take_left' el]
  have hn : noughts (List.replicate (n - 1 - s.size) 0) = true := by simp [noughts]
  rw [if_pos hn]
  rfl
theorem take_enc (a b : List Int) (k : Nat) (h : a.length = k) : takeF (a ++ b) false (k : Int) = (a, b, false) := by
  unfold takeF
  rw [if_neg (by simp [h]; omega), Int.toNat_natCast, List.take_left' h, List.drop_left' h]
theorem strOfNums_bytesOf (s : ByteArray) : strOfNums (bytesOf s) = s := by
  have : strOfNums (bytesOf s) = ⟨(s.data.toList).toArray⟩ := by
    unfold strOfNums bytesOf
    congr 2
    rw [List.map_map]
    refine (List.map_congr_left (fun b _ => ?_)).trans (List.map_id _)
    show UInt8.ofNat (Int.toNat (b.toNat : Int)) = b
    simp
  rw [this]
end Go.Proofs.Ytnhkpolfkmpldaa.PAll

/- Plain facts on the shift register of the checksum: one step is linear and injective, and what bytes, half bytes and bits do to it. No program, no condition. -/
namespace Go.Proofs.Ytnhkpolfkmpldaa.Seal

def M (x : BitVec 32) : BitVec 32 := (x >>> 1) ^^^ (if x.getLsbD 0 then 0x82f63b78#32 else 0#32)
def it : Nat → BitVec 32 → BitVec 32
  | 0, x => x
  | j + 1, x => it j (M x)

theorem M_xor (x y : BitVec 32) : M (x ^^^ y) = M x ^^^ M y := by
  unfold M
  rw [BitVec.ushiftRight_xor_distrib, BitVec.getLsbD_xor]
  generalize x >>> 1 = a
  generalize y >>> 1 = b
  cases x.getLsbD 0 <;> cases y.getLsbD 0 <;> simp only [Bool.xor_false, Bool.xor_true, Bool.not_false, Bool.not_true, Bool.false_eq_true, if_true, if_false, BitVec.xor_zero]
  · ac_rfl
  · ac_rfl
  · have : a ^^^ 0x82f63b78#32 ^^^ (b ^^^ 0x82f63b78#32) = (a ^^^ b) ^^^ (0x82f63b78#32 ^^^ 0x82f63b78#32) := by ac_rfl
    rw [this, BitVec.xor_self, BitVec.xor_zero]
theorem M_zero : M 0#32 = 0#32 := by decide
theorem it_xor (j : Nat) : ∀ x y, it j (x ^^^ y) = it j x ^^^ it j y := by
  induction j with
  | zero => intro x y; rfl
  | succ j ih => intro x y; simp only [it, M_xor, ih]
theorem it_zero (j : Nat) : it j 0#32 = 0#32 := by
  induction j with
  | zero => rfl
  | succ j ih => simp only [it, M_zero, ih]
theorem it_add (i j : Nat) : ∀ x, it (i + j) x = it j (it i x) := by
  induction i with
  | zero => intro x; simp [it]
  | succ i ih => intro x; rw [Nat.succ_add]; simp only [it, ih]
theorem M_low (x : BitVec 32) (h : x.getLsbD 0 = false) : M x = x >>> 1 := by
  unfold M; rw [h]; simp
theorem it_low (j : Nat) : ∀ y : BitVec 32, (∀ i, i < j → y.getLsbD i = false) → it j y = y >>> j := by
  induction j with
  | zero => intro y _; simp [it]
  | succ j ih =>
    intro y h
    simp only [it]
    rw [M_low y (h 0 (by omega)), ih _ (fun i hi => by rw [BitVec.getLsbD_ushiftRight]; exact h (1 + i) (by omega)), ← BitVec.shiftRight_add]
    congr 1; omega
theorem M_inj0 (x : BitVec 32) (h : M x = 0#32) : x = 0#32 := by
  unfold M at h
  have h31 : (x >>> 1 ^^^ (if x.getLsbD 0 then 0x82f63b78#32 else 0#32)).getLsbD 31 = false := by rw [h]; rfl
  rw [BitVec.getLsbD_xor, BitVec.getLsbD_ushiftRight, BitVec.getLsbD_of_ge x _ (by omega)] at h31
  cases h0 : x.getLsbD 0
  · rw [h0] at h
    simp only [Bool.false_eq_true, if_false, BitVec.xor_zero] at h
    apply BitVec.eq_of_getLsbD_eq
    intro i hi
    rw [BitVec.getLsbD_zero]
    match i with
    | 0 => exact h0
    | i + 1 =>
      have := congrArg (fun z => z.getLsbD i) h
      simp only [BitVec.getLsbD_ushiftRight, BitVec.getLsbD_zero] at this
      rw [Nat.add_comm]; exact this
  · rw [h0] at h31
    simp at h31
theorem it_inj0 (j : Nat) : ∀ x, it j x = 0#32 → x = 0#32 := by
  induction j with
  | zero => intro x h; exact h
  | succ j ih => intro x h; exact M_inj0 _ (ih _ h)
theorem it_inj (j : Nat) (x y : BitVec 32) (h : it j x = it j y) : x = y := by
  have := it_inj0 j (x ^^^ y) (by rw [it_xor, h, BitVec.xor_self])
  exact BitVec.xor_eq_zero_iff.1 this

theorem mask_bit (j i : Nat) (hj : j ≤ 32) : (BitVec.ofNat 32 (2 ^ j - 1)).getLsbD i = decide (i < j) := by
  rw [BitVec.getLsbD_ofNat, Nat.testBit_two_pow_sub_one]
  by_cases h : i < j
  · simp [h]; omega
  · simp [h]
/-- The low bits go through the register, the others are shifted. -/
theorem it_split (j : Nat) (hj : j ≤ 32) (x : BitVec 32) : it j x = it j (x &&& BitVec.ofNat 32 (2 ^ j - 1)) ^^^ (x >>> j) := by
  have e : x = (x &&& BitVec.ofNat 32 (2 ^ j - 1)) ^^^ (x ^^^ (x &&& BitVec.ofNat 32 (2 ^ j - 1))) := by
    rw [← BitVec.xor_assoc, BitVec.xor_comm _ x, BitVec.xor_assoc, BitVec.xor_self, BitVec.xor_zero]
  conv => lhs; rw [e]
  rw [it_xor]
  congr 1
  rw [it_low j _ (fun i hi => by rw [BitVec.getLsbD_xor, BitVec.getLsbD_and, mask_bit j i hj]; simp [hi])]
  apply BitVec.eq_of_getLsbD_eq
  intro i hi
  rw [BitVec.getLsbD_ushiftRight, BitVec.getLsbD_ushiftRight, BitVec.getLsbD_xor, BitVec.getLsbD_and, mask_bit j _ hj]
  have hz : decide (j + i < j) = false := by simp
  rw [hz, Bool.and_false, Bool.xor_false]

/-- Bits, one by one, of a number. -/
def G : BitVec 32 → Nat → Nat → BitVec 32
  | s, _, 0 => s
  | s, E, j + 1 => G (M (s ^^^ BitVec.ofNat 32 (E % 2))) (E / 2) j
theorem ofNat_xor (a b : Nat) : BitVec.ofNat 32 (a ^^^ b) = BitVec.ofNat 32 a ^^^ BitVec.ofNat 32 b := by
  apply BitVec.eq_of_getLsbD_eq; intro i hi
  rw [BitVec.getLsbD_xor, BitVec.getLsbD_ofNat, BitVec.getLsbD_ofNat, BitVec.getLsbD_ofNat, Nat.testBit_xor]; simp [hi]
theorem G_xor (j : Nat) : ∀ s t E F, G (s ^^^ t) (E ^^^ F) j = G s E j ^^^ G t F j := by
  induction j with
  | zero => intro s t E F; rfl
  | succ j ih =>
    intro s t E F
    simp only [G]
    have e1 : (E ^^^ F) % 2 = (E % 2) ^^^ (F % 2) := by
      have := Nat.xor_mod_two_pow (a := E) (b := F) (n := 1); simpa using this
    have e2 : (E ^^^ F) / 2 = (E / 2) ^^^ (F / 2) := by
      have := Nat.shiftRight_xor_distrib (a := E) (b := F) (i := 1); simpa [Nat.shiftRight_eq_div_pow] using this
    rw [e1, e2, ofNat_xor, ← ih, ← M_xor]
    congr 2
    ac_rfl
theorem G_zero (n : Nat) : ∀ j E, G 0#32 (E * 2 ^ n) (n + j) = G 0#32 E j := by
  induction n with
  | zero => intro j E; simp
  | succ n ih =>
    intro j E
    rw [show n + 1 + j = (n + j) + 1 from by omega]
    simp only [G]
    have e1 : E * 2 ^ (n + 1) % 2 = 0 := by rw [Nat.pow_succ, ← Nat.mul_assoc]; simp
    have e2 : E * 2 ^ (n + 1) / 2 = E * 2 ^ n := by rw [Nat.pow_succ, ← Nat.mul_assoc]; simp
    rw [e1, e2, show 0#32 ^^^ BitVec.ofNat 32 0 = 0#32 from rfl, M_zero, ih]
theorem G_it (j : Nat) : ∀ s E, j ≤ 32 → E < 2 ^ j → G s E j = it j (s ^^^ BitVec.ofNat 32 E) := by
  induction j with
  | zero => intro s E _ h; have : E = 0 := by omega
            subst this; simp [G, it]
  | succ j ih =>
    intro s E hj h
    simp only [G, it]
    rw [ih _ _ (by omega) (by rw [Nat.pow_succ] at h; omega)]
    congr 1
    have e : E = (E % 2) ^^^ (E / 2 * 2) := by
      apply Nat.eq_of_testBit_eq; intro i
      rw [Nat.testBit_xor]
      match i with
      | 0 => simp [Nat.testBit_zero]
      | i + 1 => simp [Nat.testBit_succ, show E % 2 / 2 = 0 from by omega]
    have e0 : (BitVec.ofNat 32 (E / 2 * 2)).getLsbD 0 = false := by
      rw [BitVec.getLsbD_ofNat]; simp [Nat.testBit_zero]
    have e1 : M (BitVec.ofNat 32 (E / 2 * 2)) = BitVec.ofNat 32 (E / 2) := by
      rw [M_low _ e0]
      apply BitVec.eq_of_toNat_eq
      have h32 : E / 2 * 2 < 2 ^ 32 := Nat.lt_of_lt_of_le (by omega) (Nat.pow_le_pow_right (by omega) hj)
      rw [BitVec.toNat_ushiftRight, BitVec.toNat_ofNat, BitVec.toNat_ofNat, Nat.mod_eq_of_lt h32, Nat.mod_eq_of_lt (by omega), Nat.shiftRight_eq_div_pow]
      omega
    conv => rhs; rw [e, ofNat_xor, ← BitVec.xor_assoc, M_xor, e1]
theorem G_more (i : Nat) : ∀ s E j, G s E (i + j) = G (G s E i) (E / 2 ^ i) j := by
  induction i with
  | zero => intro s E j; simp [G]
  | succ i ih =>
    intro s E j
    rw [show i + 1 + j = (i + j) + 1 from by omega]
    simp only [G]
    rw [ih, Nat.div_div_eq_div_mul, Nat.pow_succ, Nat.mul_comm 2]
theorem G_nil (j : Nat) : ∀ s, G s 0 j = it j s := by
  induction j with
  | zero => intro s; rfl
  | succ j ih => intro s; simp only [G, it]; rw [Nat.zero_div, ih]; simp
/-- What lies within 32 bits and is not nothing is never nothing. -/
theorem G_burst (n j E : Nat) (h : E < 2 ^ 32) (hj : 32 ≤ j) (h0 : G 0#32 (E * 2 ^ n) (n + j) = 0#32) : E = 0 := by
  rw [G_zero, show j = 32 + (j - 32) from by omega, G_more, G_it 32 _ _ (Nat.le_refl _) h, Nat.div_eq_of_lt h, G_nil] at h0
  have := it_inj0 _ _ (it_inj0 _ _ h0)
  have h2 := congrArg BitVec.toNat this
  simpa [Nat.mod_eq_of_lt h] using h2
end Go.Proofs.Ytnhkpolfkmpldaa.Seal

/- What the printed functions of seal and of its reference compute, told by the shift register: sums, what is put, what is got. No condition but that bytes are bytes and that there are at most 2^30 of them. -/
namespace Go.Proofs.Ytnhkpolfkmpldaa.SealF
open Go.RowKit Go.Proofs.Ytnhkpolfkmpldaa.PAll Go.Proofs.Ytnhkpolfkmpldaa.Seal Go.Proofs.YtnhkpolfkmpldaaW.PrintWords Go.Proofs.YtnhkpolfkmpldaaW.PrintLast

def n (v : BitVec 32) : Int := (v.toNat : Int)
theorem n_xor (a b : BitVec 32) : bits .xor .u32 (n a) (n b) = n (a ^^^ b) := by
  rw [n, n, u32_xor_nat a.toNat b.toNat a.isLt b.isLt]; simp [n]
theorem n_and (a b : BitVec 32) : bits .and .u32 (n a) (n b) = n (a &&& b) := by
  rw [n, n, u32_and_nat a.toNat b.toNat a.isLt b.isLt]; simp [n]
theorem n_shr (a : BitVec 32) (k : Nat) : n a / (2 : Int) ^ k = n (a >>> k) := by
  simp [n, BitVec.toNat_ushiftRight, Nat.shiftRight_eq_div_pow]
theorem n_half (a : BitVec 32) : n a / (2 : Int) = n (a >>> 1) := by have := n_shr a 1; simpa using this
theorem n_nib (a : BitVec 32) : n a / (16 : Int) = n (a >>> 4) := by have := n_shr a 4; simpa using this
theorem n_and1 (a : BitVec 32) : bits .and .u32 (n a) 1 = n (a &&& 1#32) := n_and a 1#32
theorem n_and15 (a : BitVec 32) : bits .and .u32 (n a) 15 = n (a &&& 15#32) := n_and a 15#32
theorem n_poly (a : BitVec 32) : bits .xor .u32 (n a) 2197175160 = n (a ^^^ 0x82f63b78#32) := n_xor a 0x82f63b78#32
theorem n_ofNat (c : Nat) (h : c < 4294967296) : n (BitVec.ofNat 32 c) = c := by simp [n]; omega
theorem n_bit (v : BitVec 32) : (n (v &&& 1#32) = 1) ↔ v.getLsbD 0 = true := by
  rw [n, BitVec.toNat_and, show (1#32).toNat = 1 from rfl, Nat.and_one_is_mod, BitVec.getLsbD, Nat.testBit_zero]
  simp; omega
theorem step_n (k : Nat) (v : BitVec 32) (i j : Int) (hi : i < 4) (hj : wrap64 (i + 1) = j) : seal_step.l0 (k + 1) (n v) i = seal_step.l0 k (n (M v)) j := by
  rw [seal_step.l0, if_pos hi, hj, n_and1, n_half, n_poly]
  have hb := n_bit v
  cases h : v.getLsbD 0
  · rw [if_neg (by rw [hb, h]; simp), M, h]
    simp
  · rw [if_pos (by rw [hb, h]), M, h]
    simp
theorem stp_n (v : BitVec 32) : seal_Go.stp (n v) = n (it 4 v) := by
  unfold seal_Go.stp seal_step.f
  rw [step_n _ _ 0 1 (by omega) (by kernel_rfl), step_n _ _ 1 2 (by omega) (by kernel_rfl), step_n _ _ 2 3 (by omega) (by kernel_rfl), step_n _ _ 3 4 (by omega) (by kernel_rfl), seal_step.l0, if_neg (by omega)]
  rfl
theorem half_n (r : BitVec 32) (c : Nat) (hc : c < 256) : seal_Go.half (n r) c = n (it 4 (r ^^^ BitVec.ofNat 32 (c % 16))) := by
  have e : (c : Int) % 4294967296 = n (BitVec.ofNat 32 c) := by rw [n_ofNat c (by omega)]; omega
  rw [seal_Go.half, e, n_xor, n_and15, stp_n, n_nib, n_xor, it_split 4 (by omega) (r ^^^ BitVec.ofNat 32 (c % 16))]
  have e1 : (r ^^^ BitVec.ofNat 32 c) &&& 15#32 = (r ^^^ BitVec.ofNat 32 (c % 16)) &&& BitVec.ofNat 32 (2 ^ 4 - 1) := by
    apply BitVec.eq_of_getLsbD_eq; intro i hi
    rw [BitVec.getLsbD_and, BitVec.getLsbD_and, mask_bit 4 i (by omega), BitVec.getLsbD_xor, BitVec.getLsbD_xor, BitVec.getLsbD_ofNat, BitVec.getLsbD_ofNat, show (16 : Nat) = 2 ^ 4 from rfl, Nat.testBit_mod_two_pow]
    by_cases h : i < 4 <;> simp [h]
  have e2 : (r ^^^ BitVec.ofNat 32 (c % 16)) >>> 4 = r >>> 4 := by
    rw [BitVec.ushiftRight_xor_distrib]
    have : BitVec.ofNat 32 (c % 16) >>> 4 = 0#32 := by
      apply BitVec.eq_of_toNat_eq
      rw [BitVec.toNat_ushiftRight, BitVec.toNat_ofNat, Nat.shiftRight_eq_div_pow]
      simp; omega
    rw [this, BitVec.xor_zero]
  rw [e1, e2]
theorem byte_n (r : BitVec 32) (c : Nat) (hc : c < 256) : seal_Go.byte (n r) c = n (G r c 8) := by
  rw [seal_Go.byte, half_n r c hc, show ((c : Int) / 16) = ((c / 16 : Nat) : Int) from by omega, half_n _ (c / 16) (by omega), G_it 8 r c (by omega) (by omega), it_add 4 4]
  congr 1
  congr 1
  have h1 : c / 16 % 16 = c / 16 := by omega
  have e : BitVec.ofNat 32 c = BitVec.ofNat 32 (c % 16) ^^^ BitVec.ofNat 32 (c / 16 * 16) := by
    rw [← ofNat_xor]; congr 1
    apply Nat.eq_of_testBit_eq; intro i
    rw [Nat.testBit_xor, show (16 : Nat) = 2 ^ 4 from rfl, Nat.testBit_mod_two_pow, Nat.testBit_mul_two_pow, Nat.testBit_div_two_pow]
    by_cases h : i < 4
    · have h4 : ¬ 4 ≤ i := by omega
      simp [h, h4]
    · have h4 : 4 ≤ i := by omega
      simp [h, h4]
  have hl : it 4 (BitVec.ofNat 32 (c / 16 * 16)) = BitVec.ofNat 32 (c / 16) := by
    rw [it_low 4 _ (fun i hi => by
      rw [BitVec.getLsbD_ofNat, show (16 : Nat) = 2 ^ 4 from rfl, Nat.testBit_mul_two_pow]
      have : ¬ 4 ≤ i := by omega
      simp [this])]
    apply BitVec.eq_of_toNat_eq
    rw [BitVec.toNat_ushiftRight, BitVec.toNat_ofNat, BitVec.toNat_ofNat, Nat.shiftRight_eq_div_pow, Nat.mod_eq_of_lt (by omega), Nat.mod_eq_of_lt (by omega)]
    omega
  rw [h1, e, ← BitVec.xor_assoc, it_xor 4 (r ^^^ BitVec.ofNat 32 (c % 16)), hl]

/-- Bytes as one number, the first one lowest. -/
def le : List Int → Nat
  | [] => 0
  | c :: r => c.toNat + 256 * le r
def Byt (l : List Int) : Prop := ∀ x ∈ l, 0 ≤ x ∧ x < 256
theorem G_mod (j : Nat) : ∀ s E F, E % 2 ^ j = F % 2 ^ j → G s E j = G s F j := by
  induction j with
  | zero => intro s E F _; rfl
  | succ j ih =>
    intro s E F h
    have h2 : E % 2 = F % 2 := by
      have d : 2 ∣ 2 ^ (j + 1) := by rw [Nat.pow_succ]; exact Nat.dvd_mul_left 2 _
      have h3 : E % 2 ^ (j + 1) % 2 = F % 2 ^ (j + 1) % 2 := by rw [h]
      rwa [Nat.mod_mod_of_dvd _ d, Nat.mod_mod_of_dvd _ d] at h3
    simp only [G]
    rw [h2]
    apply ih
    have e : ∀ z : Nat, z / 2 % 2 ^ j = z % 2 ^ (j + 1) / 2 := by
      intro z; rw [Nat.pow_succ, Nat.mul_comm, Nat.mod_mul_right_div_self]
    rw [e, e, h]
theorem fold_n (l : List Int) : ∀ s, Byt l → l.foldl seal_Go.byte (n s) = n (G s (le l) (8 * l.length)) := by
  induction l with
  | nil => intro s _; rfl
  | cons c r ih =>
    intro s h
    have hc := h c (by simp)
    obtain ⟨m, rfl⟩ : ∃ m : Nat, c = m := ⟨c.toNat, by omega⟩
    rw [List.foldl_cons, byte_n s m (by omega), ih _ (fun x hx => h x (by simp [hx])), List.length_cons, show 8 * (r.length + 1) = 8 + 8 * r.length from by omega, G_more]
    congr 2
    · apply G_mod; simp only [le, Int.toNat_natCast]; omega
    · simp only [le, Int.toNat_natCast]; omega
def crc (l : List Int) : BitVec 32 := ~~~ (G (~~~ 0#32) (le l) (8 * l.length))
theorem notu_n (v : BitVec 32) : seal_Go.notu (n v) = n (~~~ v) := by
  rw [seal_Go.notu, show IntKind.u32.max = n (BitVec.allOnes 32) from by kernel_rfl, n_xor, BitVec.allOnes_xor]
theorem v_n (s : BitVec 32) (l : List Int) (h : Byt l) : seal_Go.v (n s) l = n (~~~ (G (~~~ s) (le l) (8 * l.length))) := by
  rw [seal_Go.v, notu_n, fold_n l _ h, notu_n]
theorem go_f (s : BitVec 32) (l : List Int) (h : Byt l) (hl : l.length ≤ 1073741824) : seal_Go.f (n s) l = some (n (~~~ (G (~~~ s) (le l) (8 * l.length)))) := by
  rw [seal_Go.f, if_pos hl, v_n s l h]
theorem sum_f (l : List Int) (h : Byt l) (hl : l.length ≤ 1073741824) : seal_Sum.f l = some (n (crc l)) := by
  rw [seal_Sum.f, show (0 : Int) = n 0#32 from rfl, go_f _ l h hl]; rfl
theorem le_append (a b : List Int) : le (a ++ b) = le a + 2 ^ (8 * a.length) * le b := by
  induction a with
  | nil => simp [le]
  | cons c r ih => rw [List.cons_append, le, le, ih, List.length_cons, show 8 * (r.length + 1) = 8 * r.length + 8 from by omega, Nat.pow_add]; simp only [show (2 : Nat) ^ 8 = 256 from rfl, Nat.mul_add]; rw [Nat.mul_comm _ 256, Nat.mul_assoc, Nat.add_assoc]
theorem le_lt (a : List Int) (h : Byt a) : le a < 2 ^ (8 * a.length) := by
  induction a with
  | nil => simp [le]
  | cons c r ih =>
    have := ih (fun x hx => h x (by simp [hx]))
    have hc := h c (by simp)
    rw [le, List.length_cons, show 8 * (r.length + 1) = 8 * r.length + 8 from by omega, Nat.pow_add]
    have : c.toNat < 256 := by omega
    omega
theorem G_append (s : BitVec 32) (a b : List Int) (h : Byt a) : G s (le (a ++ b)) (8 * (a ++ b).length) = G (G s (le a) (8 * a.length)) (le b) (8 * b.length) := by
  rw [List.length_append, Nat.mul_add, G_more, le_append]
  congr 1
  · apply G_mod; rw [Nat.add_mul_mod_self_left]
  · rw [Nat.add_mul_div_left _ _ (Nat.two_pow_pos _), Nat.div_eq_of_lt (le_lt a h), Nat.zero_add]
theorem byt_take {l : List Int} (h : Byt l) (k : Nat) : Byt (l.take k) := fun x hx => h x (List.mem_of_mem_take hx)
theorem byt_drop {l : List Int} (h : Byt l) (k : Nat) : Byt (l.drop k) := fun x hx => h x (List.mem_of_mem_drop hx)

/-! The reference, bit by bit. -/
theorem ref_bit (k : Nat) (l : List Int) (s : BitVec 32) (i j : Int) (c m : Nat) (hi0 : 0 ≤ i) (hi : i < (l.length : Int)) (hm : j = m) (hm8 : m < 8) (hc : rd l i = c) (hc8 : c < 256) :
    counterpaneref02_Sum.l1 (k + 1) l (n s) i j = counterpaneref02_Sum.l1 k l (n (M (s ^^^ BitVec.ofNat 32 (c / 2 ^ m % 2)))) i (j + 1) := by
  subst hm
  have hw : IntKind.u64.wrap (m : Int) = m := by rw [IntKind.wrap]; simp [IntKind.bits, IntKind.signed]; omega
  have hw2 : wrap64 ((m : Int) + 1) = m + 1 := by unfold wrap64; omega
  have hs : shr .u8 (rd l i) (m : Int) % 4294967296 = n (BitVec.ofNat 32 (c / 2 ^ m)) := by
    have hd : c / 2 ^ m ≤ c := Nat.div_le_self _ _
    have hmin : min (m : Int).toNat IntKind.u8.bits = m := by simp [IntKind.bits]; omega
    have hq : ((c : Int) / 2 ^ m) = ((c / 2 ^ m : Nat) : Int) := by simp
    rw [hc, shr, hmin, hq, n_ofNat _ (by omega)]
    exact Int.emod_eq_of_lt (Int.natCast_nonneg _) (by omega)
  rw [counterpaneref02_Sum.l1, if_pos (by omega), if_pos hi0, if_pos hi, hw, if_pos (by omega), hw2, hs, n_and1, n_and1, n_half, n_poly]
  have hx : ∀ v w : BitVec 32, (n (v &&& 1#32) = n (w &&& 1#32)) ↔ v.getLsbD 0 = w.getLsbD 0 := by
    intro v w
    have h1 := n_bit v; have h2 := n_bit w
    have h3 : n (v &&& 1#32) = 0 ∨ n (v &&& 1#32) = 1 := by simp [n, Nat.and_one_is_mod]; omega
    have h4 : n (w &&& 1#32) = 0 ∨ n (w &&& 1#32) = 1 := by simp [n, Nat.and_one_is_mod]; omega
    cases hv : v.getLsbD 0 <;> cases hw : w.getLsbD 0 <;> simp only [hv, hw, Bool.false_eq_true, iff_false, iff_true, reduceCtorEq] at h1 h2 ⊢ <;> omega
  have hb : (BitVec.ofNat 32 (c / 2 ^ m)).getLsbD 0 = decide (c / 2 ^ m % 2 = 1) := by rw [BitVec.getLsbD_ofNat, Nat.testBit_zero]; simp
  have hM : M (s ^^^ BitVec.ofNat 32 (c / 2 ^ m % 2)) = (s >>> 1) ^^^ (if (s.getLsbD 0 != decide (c / 2 ^ m % 2 = 1)) then 0x82f63b78#32 else 0#32) := by
    unfold M
    rw [BitVec.ushiftRight_xor_distrib, BitVec.getLsbD_xor]
    have h0 : BitVec.ofNat 32 (c / 2 ^ m % 2) >>> 1 = 0#32 := by
      apply BitVec.eq_of_toNat_eq
      rw [BitVec.toNat_ushiftRight, BitVec.toNat_ofNat, Nat.shiftRight_eq_div_pow]
      simp; omega
    have h1 : (BitVec.ofNat 32 (c / 2 ^ m % 2)).getLsbD 0 = decide (c / 2 ^ m % 2 = 1) := by rw [BitVec.getLsbD_ofNat, Nat.testBit_zero]; simp
    rw [h0, h1, BitVec.xor_zero]
  rw [hM]
  by_cases h : n (BitVec.ofNat 32 (c / 2 ^ m) &&& 1#32) = n (s &&& 1#32)
  · rw [if_pos h]
    rw [hx, hb] at h
    simp [h]
  · rw [if_neg h]
    rw [hx, hb] at h
    have : (s.getLsbD 0 != decide (c / 2 ^ m % 2 = 1)) = true := by simp; exact fun e => h e.symm
    simp only [this, if_true]
theorem ref_byte (k : Nat) (l : List Int) (i : Int) (c : Nat) (hi0 : 0 ≤ i) (hi : i < (l.length : Int)) (hl : l.length ≤ 1073741824) (hc : rd l i = c) (hc8 : c < 256) (d : Nat) : ∀ (s : BitVec 32) (m : Nat), m + d = 8 →
    counterpaneref02_Sum.l1 (k + d + 1) l (n s) i (m : Int) = counterpaneref02_Sum.l0 k l (n (G s (c / 2 ^ m) d)) (i + 1) := by
  induction d with
  | zero =>
    intro s m hm
    have hw2 : wrap64 (i + 1) = i + 1 := by unfold wrap64; omega
    rw [counterpaneref02_Sum.l1, if_neg (by omega), hw2]; rfl
  | succ d ih =>
    intro s m hm
    rw [show k + (d + 1) + 1 = (k + d + 1) + 1 from by omega, ref_bit _ l s i m c m hi0 hi rfl (by omega) hc hc8, show (m : Int) + 1 = ((m + 1 : Nat) : Int) from by omega, ih _ (m + 1) (by omega)]
    simp only [G]
    rw [Nat.div_div_eq_div_mul, Nat.pow_succ]
theorem ref_sum (l : List Int) (h : Byt l) (hl : l.length ≤ 1073741824) (d : Nat) : ∀ (s : BitVec 32) (i : Nat), i + d = l.length →
    counterpaneref02_Sum.l0 (10 * d + 1) l (n s) i = some (n (~~~ (G s (le (l.drop i)) (8 * d)))) := by
  induction d with
  | zero =>
    intro s i hi
    rw [counterpaneref02_Sum.l0, if_neg (by omega)]
    congr 1
    simp only [G]
    simp [n, BitVec.toNat_not]
    have := s.isLt
    omega
  | succ d ih =>
    intro s i hi
    have hlt : i < l.length := by omega
    have hb := h l[i] (List.getElem_mem hlt)
    obtain ⟨c, hc⟩ : ∃ c : Nat, l[i] = c := ⟨l[i].toNat, by omega⟩
    have hrd : rd l (i : Int) = c := by simp [rd, hlt, hc]
    rw [show 10 * (d + 1) + 1 = ((10 * d + 1) + 8 + 1) + 1 from by omega, counterpaneref02_Sum.l0, if_pos (by omega), show (0 : Int) = ((0 : Nat) : Int) from rfl, ref_byte _ l i c (by omega) (by omega) hl hrd (by omega) 8 s 0 rfl, show (i : Int) + 1 = ((i + 1 : Nat) : Int) from by omega, ih _ (i + 1) (by omega)]
    rw [List.drop_eq_getElem_cons hlt, hc, show 8 * (d + 1) = 8 + 8 * d from by omega, G_more]
    have e1 : G s (le ((c : Int) :: l.drop (i + 1))) 8 = G s (c / 2 ^ 0) 8 := by
      apply G_mod; simp only [le, Int.toNat_natCast]; simp
    have e2 : le ((c : Int) :: l.drop (i + 1)) / 2 ^ 8 = le (l.drop (i + 1)) := by simp only [le, Int.toNat_natCast]; omega
    rw [e1, e2]
theorem ref_f (l : List Int) (h : Byt l) (hl : l.length ≤ 1073741824) : counterpaneref02_Sum.f (10 * l.length + 1) l = some (n (crc l)) := by
  rw [counterpaneref02_Sum.f, show (4294967295 : Int) = n (~~~ 0#32) from by kernel_rfl, show (0 : Int) = ((0 : Nat) : Int) from rfl, ref_sum l h hl l.length _ 0 (by omega)]
  rfl
theorem byt_of {l : List Int} (h : ∀ x ∈ l, (Lit.int .u8 x).wf = true) : Byt l := by
  intro x hx
  have := h x hx
  simp [Lit.wf, IntKind.min, IntKind.max, IntKind.signed, IntKind.bits] at this
  omega
end Go.Proofs.Ytnhkpolfkmpldaa.SealF

/- What sealing puts behind bytes, and what is got of any bytes: got exactly if the last four are the sum of the others. No condition but that bytes are bytes and that there are at most 2^29 of them. -/
namespace Go.Proofs.Ytnhkpolfkmpldaa.SealF
open Go.RowKit Go.Proofs.Ytnhkpolfkmpldaa.PAll Go.Proofs.Ytnhkpolfkmpldaa.Seal Go.Proofs.YtnhkpolfkmpldaaW.PrintWords Go.Proofs.YtnhkpolfkmpldaaW.PrintLast

/-- The four bytes of a sum, the lowest one first. -/
def q (c : BitVec 32) : List Int := [n c % 256, n c / 256 % 256, n c / 65536 % 256, n c / 16777216 % 256]
theorem n_lt (c : BitVec 32) : 0 ≤ n c ∧ n c < 4294967296 := by
  have := c.isLt; simp [n]; omega
theorem q_byt (c : BitVec 32) : Byt (q c) := by
  intro x hx; simp [q] at hx; omega
theorem q_len (c : BitVec 32) : (q c).length = 4 := rfl
theorem q_le (c : BitVec 32) : le (q c) = c.toNat := by
  have h := n_lt c
  have e : (c.toNat : Int) = n c := rfl
  simp only [q, le]
  omega
theorem le_inj : ∀ (a b : List Int), Byt a → Byt b → a.length = b.length → le a = le b → a = b
  | [], [], _, _, _, _ => rfl
  | [], _ :: _, _, _, h, _ => by simp at h
  | _ :: _, [], _, _, h, _ => by simp at h
  | x :: a, y :: b, ha, hb, hl, h => by
    have hx := ha x (by simp)
    have hy := hb y (by simp)
    simp only [le] at h
    have h1 : x = y := by omega
    rw [h1, le_inj a b (fun z hz => ha z (by simp [hz])) (fun z hz => hb z (by simp [hz])) (by simpa using hl) (by omega)]
theorem byt_append {a b : List Int} (ha : Byt a) (hb : Byt b) : Byt (a ++ b) := by
  intro x hx; rcases List.mem_append.1 hx with h | h
  · exact ha x h
  · exact hb x h
theorem put_f (l : List Int) (h : Byt l) (hl : l.length ≤ 536870912) : seal_Put.f l = some (l ++ q (crc l)) := by
  rw [seal_Put.f, sum_f l h (by omega), Option.bind_some, Option.bind_some, if_pos (by simp; omega), Option.bind_some, Option.bind_some, if_pos (by simp; omega)]
  rfl
theorem rput_f (k : Nat) (l : List Int) (h : Byt l) (hl : l.length ≤ 536870912) (hk : 10 * l.length + 1 ≤ k) : counterpaneref02_Put.f k l = some (l ++ q (crc l)) := by
  rw [counterpaneref02_Put.f, at_rounds (g := fun k => counterpaneref02_Sum.f k l) (fun k => counterpaneref02_Sum.mono l k) hk (ref_f l h (by omega)), Option.bind_some, if_pos (by simp; omega), Option.bind_some, Option.bind_some, if_pos (by simp; omega)]
  rfl
theorem four {l : List Int} (h : 4 ≤ l.length) : l.drop (l.length - 4) = [rd l ((l.length : Int) - 4), rd l ((l.length : Int) - 4 + 1), rd l ((l.length : Int) - 4 + 2), rd l ((l.length : Int) - 4 + 3)] := by
  obtain ⟨m, hm⟩ : ∃ m, l.length = m + 4 := ⟨l.length - 4, by omega⟩
  rw [hm, show m + 4 - 4 = m from by omega, List.drop_eq_getElem_cons (by omega), List.drop_eq_getElem_cons (by omega), List.drop_eq_getElem_cons (by omega), List.drop_eq_getElem_cons (by omega), List.drop_of_length_le (by omega)]
  have e : ∀ j : Nat, (hj : m + j < l.length) → l[m + j] = rd l (((m + 4 : Nat) : Int) - 4 + j) := by
    intro j hj
    rw [rd, show (((m + 4 : Nat) : Int) - 4 + j).toNat = m + j from by omega, List.getD_eq_getElem?_getD, List.getElem?_eq_getElem hj]
    rfl
  have e0 := e 0 (by omega)
  have e1 := e 1 (by omega)
  have e2 := e 2 (by omega)
  have e3 := e 3 (by omega)
  simp only [Int.natCast_zero, Int.add_zero, Nat.add_zero] at e0
  rw [e0]
  refine congrArg (List.cons _) ?_
  show [l[m + 1], l[m + 2], l[m + 3]] = _
  rw [e1, e2, e3]
  rfl
/-- Bytes are got exactly if the last four are the sum of the others. -/
def IsSealed (l : List Int) : Prop := 4 ≤ l.length ∧ l.drop (l.length - 4) = q (crc (l.take (l.length - 4)))
theorem get_f (l : List Int) (h : Byt l) (hl : l.length ≤ 536870912) : (IsSealed l → seal_Get.f l = some (l.take (l.length - 4), true)) ∧ (¬ IsSealed l → seal_Get.f l = some ([], false)) := by
  have hw : wrap64 ((l.length : Int) - 4) = (l.length : Int) - 4 := by unfold wrap64; omega
  by_cases h4 : 4 ≤ l.length
  · have w1 : wrap64 ((l.length : Int) - 4 + 1) = (l.length : Int) - 4 + 1 := by unfold wrap64; omega
    have w2 : wrap64 ((l.length : Int) - 4 + 2) = (l.length : Int) - 4 + 2 := by unfold wrap64; omega
    have w3 : wrap64 ((l.length : Int) - 4 + 3) = (l.length : Int) - 4 + 3 := by unfold wrap64; omega
    have et : ((l.length : Int) - 4).toNat = l.length - 4 := by omega
    have hf := four h4
    have tl : (l.take (l.length - 4)).length ≤ 1073741824 := by rw [List.length_take]; omega
    unfold IsSealed
    rw [seal_Get.f]
    simp only [hw, w1, w2, w3]
    rw [if_neg (by omega), if_pos (by omega), if_pos (by omega), et, sum_f _ (byt_take h _) tl, Option.bind_some, if_pos (by omega), hf, q]
    generalize n (crc (l.take (l.length - 4))) = c
    simp only [List.cons.injEq, and_true]
    by_cases c0 : rd l ((l.length : Int) - 4) = c % 256
    · rw [if_pos c0, if_pos (by omega), if_pos (by omega)]
      by_cases c1 : rd l ((l.length : Int) - 4 + 1) = c / 256 % 256
      · rw [if_pos c1, if_pos (by omega), if_pos (by omega)]
        by_cases c2 : rd l ((l.length : Int) - 4 + 2) = c / 65536 % 256
        · rw [if_pos c2, if_pos (by omega), if_pos (by omega)]
          by_cases c3 : rd l ((l.length : Int) - 4 + 3) = c / 16777216 % 256
          · rw [if_pos c3, Option.bind_some, if_pos (by simp; omega)]
            exact ⟨fun _ => rfl, fun hn => absurd ⟨h4, c0, c1, c2, c3⟩ hn⟩
          · rw [if_neg c3]; exact ⟨fun hg => absurd hg.2.2.2.2 c3, fun _ => rfl⟩
        · rw [if_neg c2]; exact ⟨fun hg => absurd hg.2.2.2.1 c2, fun _ => rfl⟩
      · rw [if_neg c1]; exact ⟨fun hg => absurd hg.2.2.1 c1, fun _ => rfl⟩
    · rw [if_neg c0]; exact ⟨fun hg => absurd hg.2.1 c0, fun _ => rfl⟩
  · rw [seal_Get.f, hw, if_pos (by omega)]
    exact ⟨fun hg => absurd hg.1 h4, fun _ => rfl⟩
theorem put_good (l : List Int) : IsSealed (l ++ q (crc l)) := by
  refine ⟨by simp [q_len], ?_⟩
  rw [List.length_append, q_len, Nat.add_sub_cancel, List.drop_left, List.take_left]
theorem map_inj : ∀ {a b : List Int}, Byt a → Byt b → (a.map fun x => UInt8.ofNat x.toNat) = (b.map fun x => UInt8.ofNat x.toNat) → a = b
  | [], [], _, _, _ => rfl
  | [], _ :: _, _, _, h => by simp at h
  | _ :: _, [], _, _, h => by simp at h
  | x :: a, y :: b, ha, hb, h => by
    have hx := ha x (by simp)
    have hy := hb y (by simp)
    rw [List.map_cons, List.map_cons, List.cons.injEq] at h
    have h1 := congrArg UInt8.toNat h.1
    rw [UInt8.toNat_ofNat', UInt8.toNat_ofNat'] at h1
    have h2 : x = y := by omega
    rw [h2, map_inj (fun z hz => ha z (by simp [hz])) (fun z hz => hb z (by simp [hz])) h.2]
theorem str_inj {a b : List Int} (ha : Byt a) (hb : Byt b) (h : (strOfNums a).toList = (strOfNums b).toList) : a = b := by
  rw [Go.ByteArray.toList_eq, Go.ByteArray.toList_eq] at h
  exact map_inj ha hb (by simpa [strOfNums] using h)
theorem same_f {a b : List Int} (ha : Byt a) (hb : Byt b) : counterpaneref01_Same.f a b = some (decide (a = b)) := by
  rw [counterpaneref01_Same.f]
  by_cases h : a = b
  · subst h; simp
  · have hn : ¬ (strOfNums a).toList = (strOfNums b).toList := fun e => h (str_inj ha hb e)
    simp [h, hn]
end Go.Proofs.Ytnhkpolfkmpldaa.SealF

/- Op: an op as bytes. -/
namespace Go.Proofs.Ytnhkpolfkmpldaa.PAll
open Go.RowKit Go.Proofs.YtnhkpolfkmpldaaW.PrintWords Go.Proofs.YtnhkpolfkmpldaaW.PrintLast Go.Proofs.YtnhkpolfkmpldaaW.PrintMore
set_option linter.unusedVariables false
set_option linter.unusedSimpArgs false

theorem put8_c (A0 : Option Addr) (c0 m : Nat) (l0 : List Int) (n : Int) (w : World) (hm : m = l0.length) (hr0 : Kd.C (Kd.int .u8) w A0 l0.length l0) (hc0 : l0.length ≤ c0) (hl : l0.length < 900000000) :
    Calls Try.prog 20 #[.slice A0 m c0, .int .u64 n, .int .i64 8] w fun e w' => ∃ A c, e = .returned (.slice A (l0 ++ putB n 8).length c) ∧ (l0 ++ putB n 8).length ≤ c ∧ Kd.C (Kd.int .u8) w' A (l0 ++ putB n 8).length (l0 ++ putB n 8) ∧ Below w.heap.size w w' := by
  subst hm
  exact (word_Put_uint64.calls 9 A0 c0 l0 n 8 _ w hr0 hc0 (put_f n 8 l0 (by decide) (by decide) hl)).mono fun e w' ⟨v, h1, hr, h2⟩ => by
    obtain ⟨A, c, rfl⟩ := Kd.R_slice hr
    exact ⟨A, c, h1, (Kd.R_reads' hr).2.1, (Kd.R_reads' hr).2.2, h2⟩
theorem put4_c (A0 : Option Addr) (c0 m : Nat) (l0 : List Int) (n : Int) (hn : 0 ≤ n ∧ n < 18446744073709551616) (w : World) (hm : m = l0.length) (hr0 : Kd.C (Kd.int .u8) w A0 l0.length l0) (hc0 : l0.length ≤ c0) (hl : l0.length < 900000000) :
    Calls Try.prog 21 #[.slice A0 m c0, .int .u32 n, .int .i64 4] w fun e w' => ∃ A c, e = .returned (.slice A (l0 ++ putB n 4).length c) ∧ (l0 ++ putB n 4).length ≤ c ∧ Kd.C (Kd.int .u8) w' A (l0 ++ putB n 4).length (l0 ++ putB n 4) ∧ Below w.heap.size w w' := by
  subst hm
  exact (word_Put_uint32.calls 9 A0 c0 l0 n 4 _ w hr0 hc0 (put4_f n hn 4 l0 (by decide) (by decide) hl)).mono fun e w' ⟨v, h1, hr, h2⟩ => by
    obtain ⟨A, c, rfl⟩ := Kd.R_slice hr
    exact ⟨A, c, h1, (Kd.R_reads' hr).2.1, (Kd.R_reads' hr).2.2, h2⟩
/-- The sum's four bytes. -/
def sum4 (xs : List Int) : List Int := let s := seal_Go.v 0 xs; [s % 256, (s / 256) % 256, (s / 65536) % 256, (s / 16777216) % 256]
theorem seal_put_f (xs : List Int) (h : xs.length < 1000000000) : seal_Put.f xs = some (xs ++ sum4 xs) := by
  unfold seal_Put.f seal_Sum.f seal_Go.f
  rw [if_pos (by omega)]
  simp only [Option.bind_some, List.length_nil, List.nil_append]
  rw [if_pos (by omega), if_pos (by simp only [List.length_cons, List.length_nil]; omega)]
  rfl
theorem seal_c (A0 : Option Addr) (c0 m : Nat) (l0 : List Int) (w : World) (hm : m = l0.length) (hr0 : Kd.C (Kd.int .u8) w A0 l0.length l0) (hc0 : l0.length ≤ c0) (hl : l0.length < 1000000000) :
    Calls Try.prog 23 #[.slice A0 m c0] w fun e w' => ∃ A c, e = .returned (.slice A (l0 ++ sum4 l0).length c) ∧ (l0 ++ sum4 l0).length ≤ c ∧ Kd.C (Kd.int .u8) w' A (l0 ++ sum4 l0).length (l0 ++ sum4 l0) ∧ Below w.heap.size w w' := by
  subst hm
  exact (seal_Put.calls A0 c0 l0 _ w hr0 hc0 (seal_put_f l0 hl)).mono fun e w' ⟨v, h1, hr, h2⟩ => by
    obtain ⟨A, c, rfl⟩ := Kd.R_slice hr
    exact ⟨A, c, h1, (Kd.R_reads' hr).2.1, (Kd.R_reads' hr).2.2, h2⟩
theorem text16_c (A0 : Option Addr) (c0 m : Nat) (l0 : List Int) (s : ByteArray) (w : World) (hm : m = l0.length) (hr0 : Kd.C (Kd.int .u8) w A0 l0.length l0) (hc0 : l0.length ≤ c0) (hl : l0.length < 900000000) (X : List Int) (hX : X = if textC s 16 = 0 then l0 ++ fieldOf s 16 else []) :
    Calls Try.prog 22 #[.slice A0 m c0, .string s, .int .i64 16] w fun e w' => ∃ A c, e = .returned (.tuple #[.slice A X.length c, .int .i64 (textC s 16)]) ∧ X.length ≤ c ∧ Kd.C (Kd.int .u8) w' A X.length X ∧ Below w.heap.size w w' := by
  subst hm
  have hf : word_Text.f (0 + 1) l0 s 16 = some (if textC s 16 = 0 then l0 ++ fieldOf s 16 else [], textC s 16) := by
    by_cases hs : s.size < 1000000000
    · exact word_text_f 0 l0 s 16 (by omega) hs (by omega)
    · have h3 : (s.size : Int) ≥ 16 := by omega
      unfold word_Text.f
      rw [if_neg (by omega), word_Text.j0, if_neg (by decide), if_pos h3, textC_9 (by decide) h3]
      rfl
  rw [← hX] at hf
  exact (word_Text.calls _ A0 c0 l0 s 16 _ _ w hr0 hc0 hf).mono fun e w' ⟨v, h1, hr, h2⟩ => by
    obtain ⟨A, c, rfl⟩ := Kd.R_slice hr
    exact ⟨A, c, h1, (Kd.R_reads' hr).2.1, (Kd.R_reads' hr).2.2, h2⟩

theorem index6 (W : World) (cs : Array Value) (i : Nat) (v : Value) (hi : i < 6) (hv : cs[i]? = some v) : (Instr.index 56 (.agg cs) (.int .i64 (i : Int))).run Try.prog W = .ok v W := by
  have h := Try.underlying56
  have hn : 0 ≤ (i : Int) ∧ (i : Int) < 6 := by omega
  simp [Instr.index, run_underlying h, asIntOf, hn, hi, hv, go_sem]
/-- An op's places. -/
def opV (k key x y : Int) (v : ByteArray) (w0 w1 w2 w3 n : Int) : Value := .agg #[.int .i64 k, .int .u64 key, .int .u32 x, .int .u32 y, .string v, .int .u32 w0, .int .u32 w1, .int .u32 w2, .int .u32 w3, .int .i64 n]
def six (x y w0 w1 w2 w3 : Int) : List Int := [x, y, w0, w1, w2, w3]
def fours (l : List Int) : List Int := l.flatMap fun n => putB n 4
def opHead (k key x y w0 w1 w2 w3 : Int) : List Int := putB (IntKind.u64.wrap k) 8 ++ putB key 8 ++ fours (six x y w0 w1 w2 w3)
def opBody (k key x y : Int) (v : ByteArray) (w0 w1 w2 w3 n : Int) : List Int := opHead k key x y w0 w1 w2 w3 ++ fieldOf v 16 ++ putB (IntKind.u64.wrap n) 8
theorem six_at (x y w0 w1 w2 w3 : Int) (i : Nat) (h : i < 6) : (#[Value.int .u32 x, .int .u32 y, .int .u32 w0, .int .u32 w1, .int .u32 w2, .int .u32 w3] : Array Value)[i]? = some (.int .u32 ((six x y w0 w1 w2 w3).getD i 0)) := by
  match i, h with
  | 0, _ => rfl
  | 1, _ => rfl
  | 2, _ => rfl
  | 3, _ => rfl
  | 4, _ => rfl
  | 5, _ => rfl
def opC (k key x y : Int) (v : ByteArray) (w0 w1 w2 w3 n : Int) : Array Value := #[.int .i64 k, .int .u64 key, .int .u32 x, .int .u32 y, .string v, .int .u32 w0, .int .u32 w1, .int .u32 w2, .int .u32 w3, .int .i64 n]
theorem opC_cells {W : World} {g : Nat} {k key x y : Int} {v : ByteArray} {w0 w1 w2 w3 n : Int} (h : W.heap[g]? = some (.cells (opC k key x y v w0 w1 w2 w3 n) 27 (0, 0))) :
    W.cell? ⟨g, 0, none⟩ = some (.int .i64 k) ∧ W.cell? ⟨g, 1, none⟩ = some (.int .u64 key) ∧ W.cell? ⟨g, 2, none⟩ = some (.int .u32 x) ∧ W.cell? ⟨g, 3, none⟩ = some (.int .u32 y) ∧ W.cell? ⟨g, 4, none⟩ = some (.string v) ∧
    W.cell? ⟨g, 5, none⟩ = some (.int .u32 w0) ∧ W.cell? ⟨g, 6, none⟩ = some (.int .u32 w1) ∧ W.cell? ⟨g, 7, none⟩ = some (.int .u32 w2) ∧ W.cell? ⟨g, 8, none⟩ = some (.int .u32 w3) ∧ W.cell? ⟨g, 9, none⟩ = some (.int .i64 n) :=
  ⟨(blk_cell h 0).trans rfl, (blk_cell h 1).trans rfl, (blk_cell h 2).trans rfl, (blk_cell h 3).trans rfl, (blk_cell h 4).trans rfl, (blk_cell h 5).trans rfl, (blk_cell h 6).trans rfl, (blk_cell h 7).trans rfl, (blk_cell h 8).trans rfl, (blk_cell h 9).trans rfl⟩
theorem putB_len8 (n : Int) : (putB n 8).length = 8 := putB_length n 8
theorem fours_length : ∀ l : List Int, (fours l).length = 4 * l.length
  | [] => rfl
  | a :: l => by
    have := fours_length l
    unfold fours at *
    rw [List.flatMap_cons, List.length_append, this, putB_length, List.length_cons]
    omega
theorem fours_snoc (l : List Int) (a : Int) : fours (l ++ [a]) = fours l ++ putB a 4 := by unfold fours; rw [List.flatMap_append]; simp
set_option maxHeartbeats 4000000 in
set_option maxRecDepth 100000 in
theorem op_c (k key x y : Int) (v : ByteArray) (w0 w1 w2 w3 n : Int) (w : World) (hu : ∀ z ∈ six x y w0 w1 w2 w3, 0 ≤ z ∧ z < 18446744073709551616) (X : List Int) (hX : X = if textC v 16 = 0 then opBody k key x y v w0 w1 w2 w3 n ++ sum4 (opBody k key x y v w0 w1 w2 w3 n) else []) :
    Calls Try.prog 9 #[opV k key x y v w0 w1 w2 w3 n] w fun e w' => ∃ A c, e = .returned (.tuple #[.slice A X.length c, .int .i64 (textC v 16)]) ∧ X.length ≤ c ∧ Kd.C (Kd.int .u8) w' A X.length X ∧ Below w.heap.size w w' := by
  unfold opV
  go_enter Try.func9, Try.ntmps9
  go_wp2_with fail
  have BK := Aside0.mk (show (w.alloc (.cells (opC k key x y v w0 w1 w2 w3 n) 27)).heap[w.heap.size]? = some (.cells (opC k key x y v w0 w1 w2 w3 n) 27 (0, 0)) by simpa using heap_alloc_new w (.cells (opC k key x y v w0 w1 w2 w3 n) 27 (0, 0)))
  have HB := Aside0.mk (below_alloc (Below.refl w.heap.size w) (.cells (opC k key x y v w0 w1 w2 w3 n) 27))
  rw [show (#[Value.int .i64 k, Value.int .u64 key, Value.int .u32 x, Value.int .u32 y, Value.string v, Value.int .u32 w0, Value.int .u32 w1, Value.int .u32 w2, Value.int .u32 w3, Value.int .i64 n] : Array Value) = opC k key x y v w0 w1 w2 w3 n from rfl]
  generalize w.alloc (.cells (opC k key x y v w0 w1 w2 w3 n) 27) = wa at BK HB ⊢
  refine (put8_c none 0 0 [] (IntKind.u64.wrap k) _ rfl (Kd.C_nil _ _) (Nat.le_refl _) (by decide)).mono ?_
  rintro e wb ⟨A1, c1, rfl, hc1, hC1, hb1⟩
  rw [List.nil_append] at hc1 hC1 ⊢
  replace BK := Aside0.mk (blk_below BK.out hb1)
  replace HB := Aside0.mk (below_step HB.out hb1)
  replace hC1 := Aside0.mk hC1
  obtain ⟨hc_0, hc_1, hc_2, hc_3, hc_4, hc_5, hc_6, hc_7, hc_8, hc_9⟩ := opC_cells BK.out
  clear hb1
  go_wp2_with fail
  refine (put8_c A1 c1 _ _ key _ rfl hC1.out hc1 (by rw [putB_length]; decide)).mono ?_
  rintro e wc ⟨A2, c2, rfl, hc2, hC2, hb2⟩
  replace BK := Aside0.mk (blk_below BK.out hb2)
  replace HB := Aside0.mk (below_step HB.out hb2)
  replace hC2 := Aside0.mk hC2
  clear hc_0 hc_1 hc_2 hc_3 hc_4 hc_5 hc_6 hc_7 hc_8 hc_9
  obtain ⟨hc_0, hc_1, hc_2, hc_3, hc_4, hc_5, hc_6, hc_7, hc_8, hc_9⟩ := opC_cells BK.out
  clear hb2
  have hp : Aside0 ((putB (IntKind.u64.wrap k) 8 ++ putB key 8).length = 16) := ⟨by rw [List.length_append, putB_length, putB_length]⟩
  generalize hH : putB (IntKind.u64.wrap k) 8 ++ putB key 8 = hd at hC2 hc2 hp ⊢
  replace hH := Aside0.mk hH
  go_wp2
  go_loopg [4, 33] 6 (fun kq v4 v33 w' => ∃ (A : Option Addr) (c i : Nat), v4 = .slice A (hd ++ fours ((six x y w0 w1 w2 w3).take i)).length c ∧ v33 = .int .i64 (i : Int) ∧ Aside0 (kq + i = 6) ∧ Aside0 ((hd ++ fours ((six x y w0 w1 w2 w3).take i)).length ≤ c ∧ Kd.C (Kd.int .u8) w' A (hd ++ fours ((six x y w0 w1 w2 w3).take i)).length (hd ++ fours ((six x y w0 w1 w2 w3).take i))) ∧ Aside0 (w'.heap[w.heap.size]? = some (.cells (opC k key x y v w0 w1 w2 w3 n) 27 (0, 0))) ∧ Aside0 (Below w.heap.size w w'))
  case atStart => exact ⟨A2, c2, 0, by simp [fours], rfl, ⟨by omega⟩, ⟨by simpa [fours] using ⟨hc2, hC2.out⟩⟩, BK, HB⟩
  case round =>
    clear hc_0 hc_1 hc_2 hc_3 hc_4 hc_5 hc_6 hc_7 hc_8 hc_9 BK HB
    obtain ⟨A3, c3, i, rfl, rfl, HK1, HE, BK, HB⟩ := hrel
    generalize hL : hd ++ fours ((six x y w0 w1 w2 w3).take i) = L at HE ⊢
    replace hL := Aside0.mk hL
    by_cases hi : i < 6
    · obtain ⟨k1, rfl⟩ : ∃ k1, gk = k1 + 1 := ⟨gk - 1, by have := HK1.out; omega⟩
      have p1 := eq_true (show (i : Int) < 6 by omega)
      have p1' := eq_true hi
      have p2 := eq_true (show 0 ≤ (i : Int) by omega)
      have hlen : (six x y w0 w1 w2 w3).length = 6 := rfl
      obtain ⟨z, hz⟩ : ∃ z, (six x y w0 w1 w2 w3).take (i + 1) = (six x y w0 w1 w2 w3).take i ++ [z] ∧ (#[Value.int .u32 x, .int .u32 y, .int .u32 w0, .int .u32 w1, .int .u32 w2, .int .u32 w3] : Array Value)[i]? = some (.int .u32 z) ∧ (0 ≤ z ∧ z < 18446744073709551616) := by
        refine ⟨(six x y w0 w1 w2 w3)[i]'(by omega), ?_, ?_, hu _ (List.getElem_mem _)⟩
        · rw [List.take_add_one, List.getElem?_eq_getElem (by omega)]; rfl
        · rw [six_at _ _ _ _ _ _ i hi, List.getD_eq_getElem?_getD, List.getElem?_eq_getElem (by omega)]; rfl
      obtain ⟨hz1, hz2, hz3⟩ := hz
      have hix := fun W => index6 W _ i _ hi hz2
      clear hz2
      replace hz1 := Aside0.mk hz1
      replace hz3 := Aside0.mk hz3
      have hl3 : Aside0 (L.length < 900000000) := ⟨by rw [← hL.out, List.length_append, fours_length, hp.out, List.length_take]; omega⟩
      have he3 : Aside0 (L ++ putB z 4 = hd ++ fours ((six x y w0 w1 w2 w3).take (i + 1))) := ⟨by rw [← hL.out, hz1.out, fours_snoc, List.append_assoc]⟩
      go_wp2_with fail
      have hcall := put4_c A3 c3 _ L z hz3.out wr rfl HE.out.2 HE.out.1 hl3.out
      generalize hM : L ++ putB z 4 = M at hcall
      refine hcall.mono ?_
      rintro e wd ⟨A4, c4, rfl, hc4, hC4, hb4⟩
      have hM2 : Aside0 (M = hd ++ fours ((six x y w0 w1 w2 w3).take (i + 1))) := ⟨hM ▸ he3.out⟩
      clear hM hcall
      replace BK := Aside0.mk (blk_below BK.out hb4)
      replace HB := Aside0.mk (below_step HB.out hb4)
      replace hC4 := Aside0.mk (And.intro hc4 hC4)
      clear hb4 hc4 p1'
      go_wp2
      go_roundg k1
      case measure => exact Nat.lt_succ_self _
      case rel => exact ⟨A4, c4, i + 1, by rw [hM2.out], by first | rfl | (congr 1; unfold wrap64; omega), ⟨by have := HK1.out; omega⟩, ⟨hM2.out ▸ hC4.out⟩, BK, HB⟩
    · have p1 := eq_false (show ¬ (i : Int) < 6 by omega)
      have p1' := eq_false hi
      have ht : (six x y w0 w1 w2 w3).take i = six x y w0 w1 w2 w3 := List.take_of_length_le (by show 6 ≤ i; omega)
      rw [ht] at hL
      have hl3 : Aside0 (L.length = 40) := ⟨by rw [← hL.out, List.length_append, fours_length, hp.out]; rfl⟩
      obtain ⟨hc_0, hc_1, hc_2, hc_3, hc_4, hc_5, hc_6, hc_7, hc_8, hc_9⟩ := opC_cells BK.out
      obtain ⟨X1, hX1⟩ : ∃ X1, X1 = if textC v 16 = 0 then L ++ fieldOf v 16 else [] := ⟨_, rfl⟩
      have T1 := Aside0.mk (fun W hW hc => text16_c A3 c3 _ L v W rfl hW hc (by have := hl3.out; omega) X1 hX1)
      replace hX := Aside0.mk hX
      replace hX1 := Aside0.mk hX1
      generalize hk : textC v 16 = kc at hX hX1 T1 ⊢
      have hK := Aside0.mk hk
      clear hk ht
      have hfl : Aside0 (kc = 0 → X1.length = 56) := ⟨fun h => by
        rw [hX1.out, if_pos h, List.length_append, hl3.out]
        have hs : v.size < 16 := by
          have := hK.out
          rw [h] at this
          unfold textC at this
          split at this
          · cases this
          · split at this
            · cases this
            · omega
        have := fieldOf_length v 16 hs
        simp only [Int.cast_ofNat_Int] at this
        rw [this]⟩
      go_wp2_with fail
      refine (T1.out _ HE.out.2 HE.out.1).mono ?_
      rintro e we ⟨A5, c5, rfl, hc5, hC5, hb5⟩
      replace BK := Aside0.mk (blk_below BK.out hb5)
      replace HB := Aside0.mk (below_step HB.out hb5)
      replace hC5 := Aside0.mk hC5
      clear hc_0 hc_1 hc_2 hc_3 hc_4 hc_5 hc_6 hc_7 hc_8 hc_9 hb5
      obtain ⟨hc_0, hc_1, hc_2, hc_3, hc_4, hc_5, hc_6, hc_7, hc_8, hc_9⟩ := opC_cells BK.out
      by_cases hk0 : kc = 0
      · have hk1 := beq_iff_eq.mpr hk0
        have hk2 := bne_eq_false_iff_eq.mpr hk0
        have hX2 : Aside0 (X1 ++ putB (IntKind.u64.wrap n) 8 = opBody k key x y v w0 w1 w2 w3 n) := ⟨by
          rw [hX1.out, if_pos hk0, ← hL.out, ← hH.out]; rfl⟩
        have hX3 : Aside0 (X = opBody k key x y v w0 w1 w2 w3 n ++ sum4 (opBody k key x y v w0 w1 w2 w3 n)) := ⟨by rw [hX.out, if_pos hk0]⟩
        have hl5 : Aside0 (X1.length = 56) := ⟨hfl.out hk0⟩
        go_wp2_with fail
        have hcall := put8_c A5 c5 _ X1 (IntKind.u64.wrap n) we rfl hC5.out hc5 (by have := hl5.out; omega)
        rw [hX2.out] at hcall
        have hlb : Aside0 ((opBody k key x y v w0 w1 w2 w3 n).length < 1000000000) := ⟨by rw [← hX2.out, List.length_append, hl5.out, putB_length]; decide⟩
        generalize opBody k key x y v w0 w1 w2 w3 n = Bd at hcall hX3 hlb
        refine hcall.mono ?_
        rintro e wf ⟨A6, c6, rfl, hc6, hC6, hb6⟩
        replace hC6 := Aside0.mk hC6
        replace HB := Aside0.mk (below_step HB.out hb6)
        clear hcall hb6
        go_wp2_with fail
        have hcall := seal_c A6 c6 _ Bd wf rfl hC6.out hc6 hlb.out
        rw [← hX3.out] at hcall
        refine hcall.mono ?_
        rintro e wg ⟨A7, c7, rfl, hc7, hC7, hb7⟩
        go_wp2
        go_ret2
        exact ⟨A7, c7, by first | rfl | (rw [hK.out, hk0]; rfl), hc7, hC7, below_step HB.out hb7⟩
      · have hk1 := beq_eq_false_iff_ne.mpr hk0
        have hk2 := bne_iff_ne.mpr hk0
        have hX3 : X = [] := by rw [hX.out, if_neg hk0]
        subst hX3
        go_wp2
        go_ret2
        exact ⟨none, 0, by first | rfl | (rw [hK.out]; rfl), Nat.le_refl _, Kd.C_nil _ _, HB.out⟩
end Go.Proofs.Ytnhkpolfkmpldaa.PAll

/- IsOp: the op that bytes are. -/
namespace Go.Proofs.Ytnhkpolfkmpldaa.PAll
open Go.RowKit Go.Proofs.YtnhkpolfkmpldaaW.PrintWords Go.Proofs.YtnhkpolfkmpldaaW.PrintLast Go.Proofs.YtnhkpolfkmpldaaW.PrintMore
set_option linter.unusedVariables false
set_option linter.unusedSimpArgs false

theorem rp1 {w0 w w' : World} {g : Nat} {ys : List Int} {b : Bool} (h : RdPost w0 w g ys b w') : Rd w' g ys b := h.1
theorem rp2 {w0 w w' : World} {g : Nat} {ys : List Int} {b : Bool} (h : RdPost w0 w g ys b w') : Below w0.heap.size w0 w' := h.2.1
theorem rp3 {w0 w w' : World} {g : Nat} {ys : List Int} {b : Bool} (h : RdPost w0 w g ys b w') : KeepBut w w' g none := h.2.2
set_option maxHeartbeats 1000000 in
set_option maxRecDepth 100000 in
theorem open_c (A0 : Option Addr) (c0 : Nat) (l0 : List Int) (w : World) (hr0 : Kd.C (Kd.int .u8) w A0 l0.length l0) (hc0 : l0.length ≤ c0) (hl : l0.length < 1000000000) (xs : List Int) (ok : Bool) (hG : seal_Get.f l0 = some (xs, ok)) (hxs : xs.length < 1000000000) :
    Calls Try.prog 28 #[.slice A0 l0.length c0] w fun e w' => ∃ g, e = .returned (.tuple #[.pointer (some ⟨g, 0, none⟩), .bool ok]) ∧ w.heap.size ≤ g ∧ Rd w' g xs false ∧ Below w.heap.size w w' := by
  have HR := Aside0.mk hr0
  go_enter Try.func28, Try.ntmps28
  go_wp2_with fail
  refine (seal_Get.calls A0 c0 l0 xs ok w HR.out hc0 hG).mono ?_
  rintro e w1 ⟨v, rfl, hR, hb⟩
  obtain ⟨A, c, rfl⟩ := Kd.R_slice hR
  have HC := Aside0.mk (Kd.R_reads' hR).2
  go_wp2_with fail
  refine (read_c A c xs w1 HC.out.2 HC.out.1 (by omega)).mono ?_
  rintro e w2 ⟨g, rfl, hg, hR2, hb2⟩
  go_wp2
  go_ret2
  exact ⟨g, rfl, Nat.le_trans hb.size hg, hR2, below_step hb hb2⟩
/-- The next number, as a number of 32 bits. -/
def small (v : Int) : Int := v % 4294967296
set_option maxHeartbeats 1000000 in
set_option maxRecDepth 100000 in
theorem small_c (g b : Nat) (xs : List Int) (bad : Bool) (w0 w : World) (hI : Rd w g xs bad) (hb : w.heap[b]? = some (.cells #[.pointer (some ⟨g, 0, none⟩)] 63 (0, 0))) (hB : Below w0.heap.size w0 w) (hg : w0.heap.size ≤ g) (hl : xs.length ≤ 9223372036854775806) :
    Calls Try.prog 29 #[.pointer (some ⟨b, 0, none⟩)] w fun e w' => e = .returned (.int .u32 (small (getN (takeF xs bad 4).1))) ∧ RdPost w0 w g (takeF xs bad 4).2.1 (takeF xs bad 4).2.2 w' := by
  have HI := Aside0.mk hI
  have hc : w.cell? ⟨b, 0, none⟩ = some (.pointer (some ⟨g, 0, none⟩)) := (blk_cell hb 0).trans rfl
  go_enter Try.func29, Try.ntmps29
  go_wp2_with fail
  refine (num_c g xs bad 4 w0 w HI.out hB hg hl).mono ?_
  rintro e w1 ⟨rfl, hp⟩
  go_wp2
  go_ret
  exact ⟨by first | rfl | (simp [small, IntKind.wrap, IntKind.bits, IntKind.signed]), hp⟩
end Go.Proofs.Ytnhkpolfkmpldaa.PAll

/- IsBatch: the parcels that bytes are. -/
namespace Go.Proofs.Ytnhkpolfkmpldaa.PAll
open Go.RowKit Go.Proofs.YtnhkpolfkmpldaaW.PrintWords Go.Proofs.YtnhkpolfkmpldaaW.PrintLast Go.Proofs.YtnhkpolfkmpldaaW.PrintMore
set_option linter.unusedVariables false
set_option linter.unusedSimpArgs false

theorem int_C_moved {W W1 : World} {A : Option Addr} {xs : List Int} (h : Kd.C (Kd.int .u8) W A xs.length xs) (hb : ∀ ad, A = some ad → 0 < xs.length → W1.heap[ad.block]? = W.heap[ad.block]?) : Kd.C (Kd.int .u8) W1 A xs.length xs := by
  refine ⟨h.1, h.2.1, fun hp => ?_⟩
  obtain ⟨ad, e, hc⟩ := h.2.2 hp
  refine ⟨ad, e, fun j p hj => ?_⟩
  obtain ⟨c, h1, h2, h3⟩ := hc j p hj
  refine ⟨c, h1, h2, fun i u hu => ?_⟩
  have h4 := h3 i u hu
  rw [← h4]
  exact World.cell?_of_block (by rw [add_block]; exact hb ad e hp)
theorem Rd.grown {W W1 : World} {g : Nat} {xs : List Int} {bad : Bool} {row : Option Nat} (h : Rd W g xs bad) (hg : W.grownBy W1 row) (hrow : ∀ r, row = some r → g < r) : Rd W1 g xs bad := by
  obtain ⟨A, c, h1, h2, h3, h4⟩ := h
  have hlt := blk_lt h1
  refine ⟨A, c, blk_grown h1 hg (fun e => by have := hrow g e.symm; omega), h2, int_C_moved h3 (fun ad e hp => hg.block _ (by have := h4 ad e hp; omega) (fun e2 => by have := hrow _ e2.symm; have := h4 ad e hp; omega)), h4⟩
/-- Cuts of what lies below block g of w1. -/
def kCut (w1 : World) (g : Nat) : Kd (List Int) where
  sz := 1
  E := []
  K := fun _ x cs => ∃ A c, cs = [.slice A x.length c] ∧ x.length ≤ c ∧ Kd.C (Kd.int .u8) w1 A x.length x ∧ (∀ ad, A = some ad → 0 < x.length → ad.block < g)
  M := fun _ _ _ x cs => ∃ A c, cs = [.slice A x.length c] ∧ x.length ≤ c ∧ Kd.C (Kd.int .u8) w1 A x.length x ∧ (∀ ad, A = some ad → 0 < x.length → ad.block < g)
  K_len := by
    rintro w x cs ⟨A, c, rfl, _⟩
    rfl
  K_one := by
    rintro w x cs ⟨A, c, rfl, _⟩ u hu
    rw [List.mem_singleton.1 hu]
    rfl
  K_below := fun _ h => h
  K_of_M := fun h => h
  M_mono := fun _ h => h
  M_bound := fun h => h
  M_move := fun _ h => h
  M_lower := fun _ h => h
/-- The cuts are read as slices in a later world. -/
theorem kCut_C {w1 W : World} {g n : Nat} {A : Option Addr} {l : List (List Int)} (h : Kd.C (kCut w1 g) W A n l) (hk : ∀ b, b < g → W.heap[b]? = w1.heap[b]?) : Kd.C (Kd.slice 5 (Kd.int .u8)) W A n l := by
  refine ⟨h.1, h.2.1, fun hp => ?_⟩
  obtain ⟨ad, e, hc⟩ := h.2.2 hp
  refine ⟨ad, e, fun j p hj => ?_⟩
  obtain ⟨c, h1, ⟨A2, c2, rfl, h3, h4, h5⟩, h6⟩ := hc j p hj
  exact ⟨_, rfl, ⟨A2, c2, rfl, h3, int_C_moved h4 (fun ad e hp => hk _ (h5 ad e hp))⟩, h6⟩
/-- The parcels, one behind the other. -/
def batchGo : Nat → List Int → List (List Int) → Option (List (List Int))
  | 0, _, _ => none
  | k + 1, xs, acc => if xs.length = 0 then some acc else
    let r := (takeF xs false 2).2
    let t := takeF r.1 r.2 (wrap64 (getN (takeF xs false 2).1))
    if t.2.2 then none else batchGo k t.2.1 (acc ++ [t.1])
end Go.Proofs.Ytnhkpolfkmpldaa.PAll

/- IsBatch: its contract. -/
namespace Go.Proofs.Ytnhkpolfkmpldaa.PAll
open Go.RowKit Go.Proofs.YtnhkpolfkmpldaaW.PrintWords Go.Proofs.YtnhkpolfkmpldaaW.PrintLast Go.Proofs.YtnhkpolfkmpldaaW.PrintMore
set_option linter.unusedVariables false
set_option linter.unusedSimpArgs false

theorem info34 : (Try.prog.info? 34).map (fun i => (i.zero, i.size, i.bytes)) = some (some (.slice none 0 0), 1, 24) := by kernel_rfl
set_option maxHeartbeats 4000000 in
set_option maxRecDepth 100000 in
theorem isBatch_c (A0 : Option Addr) (c0 : Nat) (l0 : List Int) (w : World) (hr0 : Kd.C (Kd.int .u8) w A0 l0.length l0) (hc0 : l0.length ≤ c0) (hl : l0.length < 1000000000) (X : Option (List (List Int))) (hX : batchGo (l0.length + 1) l0 [] = X) (L : List (List Int)) (cd : Int) (hLX : L = X.getD []) (hcd : cd = if X.isSome then 0 else 3) :
    Calls Try.prog 18 #[.slice A0 l0.length c0] w fun e w' => ∃ A c, e = .returned (.tuple #[.slice A L.length c, .int .i64 cd]) ∧ L.length ≤ c ∧ Kd.C (Kd.slice 5 (Kd.int .u8)) w' A L.length L ∧ Below w.heap.size w w' := by
  have HR := Aside0.mk hr0
  have HL := Aside0.mk hl
  replace hLX := Aside0.mk hLX
  replace hcd := Aside0.mk hcd
  clear hr0 hl
  go_enter Try.func18, Try.ntmps18
  go_wp2_with fail
  refine (read_c A0 c0 l0 w HR.out hc0 (by have := HL.out; omega)).mono ?_
  rintro e w1 ⟨g, rfl, hg, hR1, hb1⟩
  have hgl := Aside0.mk hR1.lt
  replace hR1 := Aside0.mk hR1
  replace hb1 := Aside0.mk hb1
  replace hg := Aside0.mk hg
  replace hX := Aside0.mk hX
  clear hc0
  go_wp2_with fail
  go_loopg [5] l0.length (fun kq v5 w' => ∃ (xs : List Int) (outs : List (List Int)), Aside0 (xs.length ≤ kq) ∧ Aside0 (kq + outs.length ≤ l0.length) ∧ Aside0 (batchGo (kq + 1) xs outs = X) ∧ Aside0 (Rd w' g xs false) ∧ Aside0 (Below w.heap.size w w') ∧ Aside0 (∀ b, b < g → w'.heap[b]? = w1.heap[b]?) ∧ Aside0 (Kd.R (kCut w1 g) 34 w' w.heap.size (fun k => g < k) v5 outs))
  case atStart => exact ⟨l0, [], ⟨Nat.le_refl _⟩, ⟨by simp⟩, hX, hR1, hb1, ⟨fun _ _ => rfl⟩, ⟨Kd.R_nil _ _ _ _ _⟩⟩
  case round =>
    clear hR1 hb1 hX
    obtain ⟨xs, outs, HK1, HK2, hX, HRd, HB, HKeep, HO⟩ := hrel
    have hxl : Aside0 (xs.length < 1000000000) := ⟨by have := HK1.out; have := HK2.out; have := HL.out; omega⟩
    obtain ⟨A5, c5, rfl⟩ := Kd.R_slice HO.out
    go_wp2_with fail
    refine (left_c g xs _ w _ HRd.out HB.out).mono ?_
    rintro e w2 ⟨rfl, hp2⟩
    have HB2 := Aside0.mk (rp2 hp2)
    have HRd2 := Aside0.mk (rp1 hp2)
    have HKeep2 : Aside0 (∀ b, b < g → w2.heap[b]? = w1.heap[b]?) := ⟨fun b hb => by rw [(rp3 hp2).2 b (by have := HRd.out.lt; omega) (by omega) (by simp)]; exact HKeep.out b hb⟩
    have HO2 := Aside0.mk (Kd.R_keep HO.out (rp3 hp2) (fun k hk => by omega))
    clear hp2 HB HRd HKeep HO
    by_cases hz : xs.length = 0
    · have q1 := eq_false (show ¬ (0 : Int) < (xs.length : Int) by omega)
      have q1' := eq_false (show ¬ 0 < xs.length by omega)
      have hX2 : Aside0 (X = some outs) := ⟨by rw [← hX.out, batchGo, if_pos hz]⟩
      go_wp2
      go_ret2
      rw [hcd.out, hLX.out, hX2.out]
      have hRR := Kd.R_reads' HO2.out
      exact ⟨A5, c5, rfl, hRR.2.1, kCut_C hRR.2.2 HKeep2.out, HB2.out⟩
    · have q1 := eq_true (show (0 : Int) < (xs.length : Int) by omega)
      have q1' := eq_true (show 0 < xs.length by omega)
      obtain ⟨k1, rfl⟩ : ∃ k1, gk = k1 + 1 := ⟨gk - 1, by have := HK1.out; omega⟩
      have hzz := Aside0.mk hz
      clear hz
      obtain ⟨r, hr⟩ : ∃ r, r = takeF xs false 2 := ⟨_, rfl⟩
      obtain ⟨n, hn⟩ : ∃ n, n = wrap64 (getN r.1) := ⟨_, rfl⟩
      obtain ⟨t, ht⟩ : ∃ t, t = takeF r.2.1 r.2.2 n := ⟨_, rfl⟩
      have hstep : Aside0 (batchGo (k1 + 1 + 1) xs outs = if t.2.2 then none else batchGo (k1 + 1) t.2.1 (outs ++ [t.1])) := ⟨by rw [batchGo, if_neg hzz.out, ht, hn, hr]⟩
      have hNum := Aside0.mk (fun W hW hB => num_c g xs false 2 w W hW hB hg.out (by have := hxl.out; omega))
      rw [← hr] at hNum
      have hTk := Aside0.mk (fun W hW hB => take_c g r.2.1 r.2.2 n w W hW hB hg.out)
      rw [← ht] at hTk
      have hlen : Aside0 (t.2.2 = false → t.2.1.length < xs.length) := ⟨fun h => by
        have hzz := hzz.out
        have h2 : r.2.2 = false := by
          rw [ht] at h
          unfold takeF at h
          split at h
          · cases h
          · rename_i hh; simp at hh; exact hh.1
        have h3 : r.2.1.length < xs.length := by
          rw [hr] at h2 ⊢
          unfold takeF at h2 ⊢
          split at h2
          · cases h2
          · rename_i hh; rw [if_neg hh]; simp only [List.length_drop]; omega
        have h4 : t.2.1.length ≤ r.2.1.length := by
          rw [ht]
          unfold takeF
          split
          · exact Nat.le_refl _
          · simp only [List.length_drop]; omega
        omega⟩
      replace hn := Aside0.mk hn
      clear ht hr
      obtain ⟨t1, t2, tb⟩ := t
      simp only at hstep hTk hlen
      obtain ⟨r1, r2, rb⟩ := r
      simp only at hn hNum hTk
      go_wp2_with fail
      refine (hNum.out _ HRd2.out HB2.out).mono ?_
      rintro e w3 ⟨rfl, hp3⟩
      have HB3 := Aside0.mk (rp2 hp3)
      have HRd3 := Aside0.mk (rp1 hp3)
      have HKeep3 : Aside0 (∀ b, b < g → w3.heap[b]? = w1.heap[b]?) := ⟨fun b hb => by rw [(rp3 hp3).2 b (by have := HRd2.out.lt; omega) (by omega) (by simp)]; exact HKeep2.out b hb⟩
      have HO3 := Aside0.mk (Kd.R_keep HO2.out (rp3 hp3) (fun k hk => by omega))
      clear hp3 HB2 HRd2 HKeep2 HO2
      rw [show getN r1 = getN r1 from rfl]
      go_wp2_with fail
      rw [← hn.out]
      refine (hTk.out _ HRd3.out HB3.out).mono ?_
      rintro e w4 ⟨A4, c4, rfl, hc4, hC4, hf4, hp4⟩
      replace hC4 : Kd.C (Kd.int .u8) w4 A4 t1.length t1 := hC4
      replace hc4 : t1.length ≤ c4 := hc4
      replace hf4 : ∀ ad, A4 = some ad → 0 < t1.length → ad.block < g := hf4
      replace hp4 : RdPost w w3 g t2 tb w4 := hp4
      replace hC4 := Aside0.mk hC4
      replace hf4 := Aside0.mk hf4
      have HB4 := Aside0.mk (rp2 hp4)
      have HRd4 := Aside0.mk (rp1 hp4)
      have HKeep4 : Aside0 (∀ b, b < g → w4.heap[b]? = w1.heap[b]?) := ⟨fun b hb => by rw [(rp3 hp4).2 b (by have := HRd3.out.lt; omega) (by omega) (by simp)]; exact HKeep3.out b hb⟩
      have HO4 := Aside0.mk (Kd.R_keep HO3.out (rp3 hp4) (fun k hk => by omega))
      clear hp4 HB3 HRd3 HKeep3 HO3
      go_wp2_with fail
      refine (right_c g t2 tb w _ HRd4.out HB4.out).mono ?_
      rintro e w5 ⟨rfl, hp5⟩
      have HB5 := Aside0.mk (rp2 hp5)
      have HRd5 := Aside0.mk (rp1 hp5)
      have HKeep5 : Aside0 (∀ b, b < g → w5.heap[b]? = w1.heap[b]?) := ⟨fun b hb => by rw [(rp3 hp5).2 b (by have := HRd4.out.lt; omega) (by omega) (by simp)]; exact HKeep4.out b hb⟩
      have HO5 := Aside0.mk (Kd.R_keep HO4.out (rp3 hp5) (fun k hk => by omega))
      have hC5 : Aside0 (Kd.C (Kd.int .u8) w1 A4 t1.length t1) := ⟨int_C_moved hC4.out (fun ad e hp => by rw [HKeep4.out _ (hf4.out ad e hp)])⟩
      clear hp5 HB4 HRd4 HKeep4 HO4 hC4
      cases htb : tb with
      | true =>
        subst htb
        have hX2 : Aside0 (X = none) := ⟨by rw [← hX.out, hstep.out, if_pos rfl]⟩
        go_wp2
        go_ret2
        rw [hcd.out, hLX.out, hX2.out]
        exact ⟨none, 0, rfl, Nat.le_refl _, Kd.C_nil _ _, HB5.out⟩
      | false =>
        subst htb
        have hX2 : Aside0 (batchGo (k1 + 1) t2 (outs ++ [t1]) = X) := ⟨by rw [← hX.out, hstep.out]; rfl⟩
        have hpm : Aside0 ((kCut w1 g).M w5 w.heap.size (fun _ => False) t1 [.slice A4 t1.length c4]) := ⟨⟨A4, c4, rfl, hc4, hC5.out, hf4.out⟩⟩
        have LM : Aside0 ((outs.length + 1) * 24 ≤ 140737488355328) := ⟨by have := HK2.out; have := HL.out; omega⟩
        go_wp2_with (first | ((with_reducible refine gate_builtin (b := .append) (xs := #[.tmp 20, .tmp 22]) rfl ?_); at_builtin; refine Kd.R_append (kCut w1 g) (w0 := w) w.heap.size rfl (.tmp 20) (.tmp 22) 47 34 (.slice none 0 0) 24 rfl Try.underlying47 info34 rfl (Nat.lt_succ_self 0) (by omega) (.slice A5 outs.length c5) outs t1 [.slice A4 t1.length c4] (fun k => g < k) (fun _ => False) rfl rfl ?aP (fun _ hk => hk.elim) ?aF ?aO ?aB ?aS ?aL ?_; (case aP => exact hpm.out); (case aB => exact HB5.out); (case aF => exact (fun k hk => by have := HRd5.out.lt; omega)); (case aO => exact HO5.out); (case aS => exact (below_size HB5.out)); (case aL => exact LM.out); intro v6 w6 ho hb hgr hat; have HRd6 := Aside0.mk (HRd5.out.grown hgr (fun r hr => HO5.out.1 r hr)); have HKeep6 : Aside0 (∀ b, b < g → w6.heap[b]? = w1.heap[b]?) := ⟨fun b hbb => by rw [hgr.block b (by have := HRd5.out.lt; omega) (fun e => by have := HO5.out.1 b e.symm; omega)]; exact HKeep5.out b hbb⟩; have HO6 := Aside0.mk ho; have HB6 := Aside0.mk hb; clear hgr hat ho hb))
        go_roundg k1
        case measure => exact Nat.lt_succ_self _
        case rel => exact ⟨t2, outs ++ [t1], ⟨by have := hlen.out (by first | rfl | trivial); have := HK1.out; omega⟩, ⟨by have := HK2.out; rw [List.length_append, List.length_singleton]; omega⟩, hX2, HRd6, HB6, HKeep6, HO6⟩
end Go.Proofs.Ytnhkpolfkmpldaa.PAll
