/- The functions that the laws of this seat reach, as plain functions with proofs that the calls answer just so (written by a program of this session on the kit's print). -/
import Derived.Test.YtcemdkppkklfnaaPAllx0
import Derived.Test.YtcemdkppkklfnaaPAllx5
namespace Go.Proofs.Ytcemdkppkklfnaa.PAll
open Go.RowKit Go.Proofs.YtcemdkppkklfnaaW.PrintWords Go.Proofs.YtcemdkppkklfnaaW.PrintLast Go.Proofs.YtcemdkppkklfnaaW.PrintMore
attribute [local go_sem] max2_int min2_int max_two min_two max_three min_three max_four min_four   -- for this text's walks alone
set_option linter.unusedVariables false
set_option linter.unusedSimpArgs false

/-! ### rect_Count: function 20 -/
-- GIVEN rounds=0 making=1
section
open Go.Shelf
attribute [local go_sem] Oper.semAt_some

theorem wpListIn_load_row {F : Fence} {n : Nat} {P : Program} {ops : Array Oper} {rest : List Oper} {o : Oper} {a : Act} {w : World} {Q : Exit → Act → World → Prop} (hgd : o.guard = none) (ty : TypeId) (x : Operand) (ho : o.op = .load ty x)
    (g : Nat) (hx : a.eval x = .pointer (some ⟨g, 0, none⟩)) (t : TypeId) (cs : Array Value) (fr : Nat × Nat) (d : TypeDesc) (hg : w.heap[g]? = some (.cells cs t fr))
    (hu : P.underlying ty = some d) (hd : (match d with | .struct _ | .array _ _ => true | _ => false) = true) (hi : (P.info? ty).map (·.size) = some cs.size)
    (h : wpListIn F n P ops Q rest (a.put o.dst (.agg cs)) w) : wpListIn F n P ops Q (o :: rest) a w := by
  refine wpListIn_plain hgd fun K hK' => ?_
  unfold Oper.wpIn
  refine ⟨?_, ?_⟩
  · simp [Oper.about, ho]
  · rw [Oper.semAt_plain F _ _ (by rw [ho]; intro c hc'; cases hc')]
    unfold execOp
    simp only [ho, hx, Instr.loadAt, Instr.sureAddr, Sem.run_bind, Sem.run_pure, Result.andThen_ok, run_loadVar_row w g t ty cs fr d hg hu hd hi]
    exact hK' _ _ h

/-- The tiles of one row. -/
def rowT (y a m : Nat) : List Int := (List.range m).map fun i => ((8 * y + (a + i) : Nat) : Int)
/-- The tiles of some rows. -/
def tilesT (b a m : Nat) : Nat → List Int
  | 0 => []
  | k + 1 => tilesT b a m k ++ rowT (b + k) a m
theorem row_length (y a m : Nat) : (rowT y a m).length = m := by simp [rowT]
theorem tiles_length (b a m : Nat) : ∀ k, (tilesT b a m k).length = k * m
  | 0 => by simp [tilesT]
  | k + 1 => by rw [tilesT, List.length_append, tiles_length b a m k, row_length, Nat.succ_mul]
theorem row_pre (y a : Nat) {i m : Nat} (h : i ≤ m) : rowT y a i <+: rowT y a m := by
  obtain ⟨d, rfl⟩ : ∃ d, m = i + d := ⟨m - i, by omega⟩
  rw [rowT, rowT, List.range_add, List.map_append]
  exact List.prefix_append _ _
theorem tiles_pre (b a m : Nat) : ∀ {j k : Nat}, j ≤ k → tilesT b a m j <+: tilesT b a m k := by
  intro j k h
  obtain ⟨d, rfl⟩ : ∃ d, k = j + d := ⟨k - j, by omega⟩
  clear h
  induction d with
  | zero => exact List.prefix_refl _
  | succ d ih => exact ih.trans (by rw [Nat.add_succ, tilesT]; exact List.prefix_append _ _)
theorem pre_tiles (b a m j i k : Nat) (hj : j < k) (hi : i ≤ m) : tilesT b a m j ++ rowT (b + j) a i <+: tilesT b a m k := by
  refine List.IsPrefix.trans ?_ (tiles_pre b a m (show j + 1 ≤ k from hj))
  rw [tilesT]
  exact List.prefix_append_right_inj _ |>.2 (row_pre _ _ hi)
/-- The tiles that a rectangle touches. -/
def touchT (x0 y0 x1 y1 : Nat) : List Int := if x0 > x1 ∨ y0 > y1 then [] else tilesT (y0 / 536870912) (x0 / 536870912) (x1 / 536870912 + 1 - x0 / 536870912) (y1 / 536870912 + 1 - y0 / 536870912)
abbrev rc (x0 y0 x1 y1 : Nat) : Array Value := #[.int .u32 x0, .int .u32 y0, .int .u32 x1, .int .u32 y1]

set_option maxRecDepth 100000 in
set_option maxHeartbeats 2000000 in
theorem touch_in (n : Nat) (hn : 1 ≤ n) (l Bn : Nat) (x0 y0 x1 y1 : Nat) (hx0 : x0 < 4294967296) (hy0 : y0 < 4294967296) (hx1 : x1 < 4294967296) (hy1 : y1 < 4294967296)
    (J Jx : List Int → World → Prop)
    (hY : ∀ pre x W, J pre W → pre.length < 64 → YieldAt Fence.wide (n - 1) Try.prog l #[.int .i64 x] W fun e W' =>
      (e = .returned (.bool true) ∧ J (pre ++ [x]) W' ∧ W'.heap[Bn]? = W.heap[Bn]?) ∨ (e = .returned (.bool false) ∧ Jx (pre ++ [x]) W'))
    (W : World) (hJA : AbidesFrom W.heap.size J) (hBW : Bn < W.heap.size) (hBn : W.heap[Bn]? = some (.cells (rc x0 y0 x1 y1) 24 (0, 0))) (h0 : J [] W) :
    CallsIn Fence.wide n Try.prog 22 #[.func (.yield l) #[] #[], .pointer (some ⟨Bn, 0, none⟩)] W fun e W' => (∃ v, e = .returned v) ∧
      ((∃ ys, ys = touchT x0 y0 x1 y1 ∧ J ys W') ∨ (∃ pre, pre <+: touchT x0 y0 x1 y1 ∧ Jx pre W')) := by
  refine callsIn_of_wp Try.func22 rfl trivial ?_ rfl
  simp only [Try.ntmps22, List.size_toArray, List.length_cons, List.length_nil, Nat.reduceAdd, Nat.reduceSub, Array.replicate_succ, Array.replicate_zero, List.push_toArray, List.append_toArray, List.nil_append, List.cons_append]
  have c0 : W.cell? ⟨Bn, 0, none⟩ = some (.int .u32 x0) := cell_of_row W Bn 0 _ _ _ hBn
  have c1 : W.cell? ⟨Bn, 1, none⟩ = some (.int .u32 y0) := cell_of_row W Bn 1 _ _ _ hBn
  have hE : rect_Empty.f x0 y0 x1 y1 = some (decide (x0 > x1 ∨ y0 > y1)) := by
    rw [rect_Empty.f]
    by_cases c : (x0 : Int) > x1
    · rw [if_pos c]; simp; omega
    · rw [if_neg c]; simp; omega
  gi_step
  gi_step
  gi_step
  gi_step
  refine wpListIn_load_row rfl 24 (.tmp 1) rfl Bn rfl 24 (rc x0 y0 x1 y1) (0, 0) _ hBn Try.underlying24 rfl (by kernel_rfl) ?_
  by_cases c : x0 > x1 ∨ y0 > y1
  · rw [decide_eq_true c] at hE
    gi_wp2_with (refine ⟨trivial, ?_⟩; gi_at_call 10; refine (callsIn_wide.2 (rect_Empty.calls x0 y0 x1 y1 true W hE)).mono ?_; rintro e W1 ⟨rfl, hb⟩)
    refine bodyPost_ret (results_none rfl _ _ _) rfl ?_
    refine ⟨⟨_, rfl⟩, .inl ⟨_, rfl, ?_⟩⟩
    rw [touchT, if_pos c]
    exact hJA _ _ _ none h0 ⟨hb.os, hb.tape, hb.output, hb.size, fun i hi _ => hb.block i hi⟩ (fun r h => by cases h)
  · rw [decide_eq_false c] at hE
    gi_wp2_with (refine ⟨trivial, ?_⟩; gi_at_call 10; refine (callsIn_wide.2 (rect_Empty.calls x0 y0 x1 y1 false W hE)).mono ?_; rintro e W1 ⟨rfl, hb⟩; have hB1 := (hb.block Bn hBW).trans hBn; have d0 := cell_of_row W1 Bn 0 _ _ _ hB1; have d1 := cell_of_row W1 Bn 1 _ _ _ hB1; simp only [List.getElem?_toArray, List.getElem?_cons_zero, List.getElem?_cons_succ] at d0 d1)
    obtain ⟨ay, hay⟩ : ∃ q, y0 / 536870912 = q := ⟨_, rfl⟩
    obtain ⟨ax, hax⟩ : ∃ q, x0 / 536870912 = q := ⟨_, rfl⟩
    obtain ⟨ey, hey⟩ : ∃ q, y1 / 536870912 = q := ⟨_, rfl⟩
    obtain ⟨ex, hex⟩ : ∃ q, x1 / 536870912 = q := ⟨_, rfl⟩
    have iay : (y0 : Int) / 536870912 = (ay : Int) := by omega
    have iax : (x0 : Int) / 536870912 = (ax : Int) := by omega
    have iey : (y1 : Int) / 536870912 = (ey : Int) := by omega
    have iex : (x1 : Int) / 536870912 = (ex : Int) := by omega
    have hJ1 : J [] W1 := hJA _ _ _ none h0 ⟨hb.os, hb.tape, hb.output, hb.size, fun i hi _ => hb.block i hi⟩ (fun r h => by cases h)
    rw [iay]
    gi_loopw [3] (fun vy wr => ∃ j : Nat, vy = .int .u32 ((ay : Int) + (j : Int)) ∧ j ≤ ey + 1 - ay ∧ J (tilesT ay ax (ex + 1 - ax) j) wr ∧ wr.heap[Bn]? = some (.cells (rc x0 y0 x1 y1) 24 (0, 0)))
      (fun vy wr => ey + 1 - (intOf vy).toNat)
    case atStart => exact ⟨0, by simp, by omega, hJ1, hB1⟩
    case round =>
      obtain ⟨j, rfl, hj, hJj, hBj⟩ := hrel
      have f0 := cell_of_row wr Bn 0 _ _ _ hBj
      have f3 := cell_of_row wr Bn 3 _ _ _ hBj
      simp only [List.getElem?_toArray, List.getElem?_cons_zero, List.getElem?_cons_succ] at f0 f3
      by_cases cj : j < ey + 1 - ay
      · have ht : ((ay : Int) + (j : Int)) ≤ (y1 : Int) / 536870912 := by omega
        have ht' : ((ay : Int) + (j : Int) ≤ (ey : Int)) := by omega
        gi_wp2
        gi_loopw [4] (fun vx wi => ∃ i : Nat, vx = .int .u32 ((ax : Int) + (i : Int)) ∧ i ≤ ex + 1 - ax ∧ J (tilesT ay ax (ex + 1 - ax) j ++ rowT (ay + j) ax i) wi ∧ wi.heap[Bn]? = some (.cells (rc x0 y0 x1 y1) 24 (0, 0)))
          (fun vx wi => ex + 1 - (intOf vx).toNat)
        case atStart => exact ⟨0, by simp, by omega, by simpa [rowT] using hJj, hBj⟩
        case round =>
          obtain ⟨i, rfl, hi, hJi, hBi⟩ := hrel
          have f2 := cell_of_row wr Bn 2 _ _ _ hBi
          simp only [List.getElem?_toArray, List.getElem?_cons_zero, List.getElem?_cons_succ] at f2
          by_cases ci : i < ex + 1 - ax
          · have ht2 : ((ax : Int) + (i : Int)) ≤ (x1 : Int) / 536870912 := by omega
            have hlen : (tilesT ay ax (ex + 1 - ax) j ++ rowT (ay + j) ax i).length < 64 := by
              rw [List.length_append, tiles_length, row_length]
              have h8 : j * (ex + 1 - ax) ≤ 7 * (ex + 1 - ax) := Nat.mul_le_mul_right _ (by omega)
              omega
            obtain ⟨fn, tmps, assign, body, hy, hR⟩ := hY _ (((ay : Int) + (j : Int)) * 8 + ((ax : Int) + (i : Int))) wr hJi hlen
            gi_wp2
            refine hR.mono ?_
            have hrow : tilesT ay ax (ex + 1 - ax) j ++ rowT (ay + j) ax i ++ [((ay : Int) + (j : Int)) * 8 + ((ax : Int) + (i : Int))] = tilesT ay ax (ex + 1 - ax) j ++ rowT (ay + j) ax (i + 1) := by
              rw [List.append_assoc]
              congr 1
              rw [rowT, rowT, List.range_succ, List.map_append]
              congr 1
              simp only [List.map_cons, List.map_nil]
              congr 1
              omega
            rintro e W3 (⟨rfl, hJ3, hk3⟩ | ⟨rfl, hJx3⟩)
            · gi_wp2
              go_roundw
              case rel => exact ⟨i + 1, by first | (congr 1; omega; done) | (congr 1; done) | (simp; omega), by omega, by rw [← hrow]; exact hJ3, hk3.trans hBi⟩
              case measure => simp only [intOf]; omega
            · gi_wp2
              refine bodyPost_ret (results_none rfl _ _ _) rfl ?_
              rw [hrow] at hJx3
              refine ⟨⟨_, rfl⟩, .inr ⟨_, ?_, hJx3⟩⟩
              rw [touchT, if_neg c, hay, hax, hey, hex]
              exact pre_tiles ay ax (ex + 1 - ax) j (i + 1) (ey + 1 - ay) cj (by omega)
          · have ht2 : ¬ ((ax : Int) + (i : Int)) ≤ (x1 : Int) / 536870912 := by omega
            gi_wp2
            refine ⟨⟨j + 1, ?_, by omega, ?_, hBi⟩, ?_⟩
            · first | (congr 1; omega; done) | (congr 1; done) | (simp; omega)
            · rw [tilesT, show ex + 1 - ax = i by omega]
              rw [show ex + 1 - ax = i by omega] at hJi
              exact hJi
            · simp only [intOf]; omega
      · have ht : ¬ ((ay : Int) + (j : Int)) ≤ (y1 : Int) / 536870912 := by omega
        gi_wp2
        go_end0
        refine ⟨⟨_, rfl⟩, .inl ?_⟩
        rw [touchT, if_neg c, hay, hax, hey, hex, show ey + 1 - ay = j by omega]
        exact hJj

set_option maxHeartbeats 1000000 in
theorem touched_in (n : Nat) (x0 y0 x1 y1 : Nat) (w : World) :
    CallsIn Fence.wide n Try.prog 19 #[.agg (rc x0 y0 x1 y1)] w fun e w' => e = .returned (.func (.func 22) #[] #[.pointer (some ⟨w.heap.size, 0, none⟩)]) ∧ w' = w.alloc (.cells (rc x0 y0 x1 y1) 24 (0, 0)) := by
  refine callsIn_of_wp Try.func19 rfl trivial ?_ rfl
  simp only [Try.ntmps19, List.size_toArray, List.length_cons, List.length_nil, Nat.reduceAdd, Nat.reduceSub, Array.replicate_succ, Array.replicate_zero, List.push_toArray, List.append_toArray, List.nil_append, List.cons_append]
  gi_wp2
  go_ret
  exact ⟨rfl, rfl⟩
theorem touch_stops (n : Nat) (hn : 1 ≤ n) (Bn x0 y0 x1 y1 : Nat) (hx0 : x0 < 4294967296) (hy0 : y0 < 4294967296) (hx1 : x1 < 4294967296) (hy1 : y1 < 4294967296) (w : World) (hBw : Bn < w.heap.size) (hBn : w.heap[Bn]? = some (.cells (rc x0 y0 x1 y1) 24 (0, 0))) :
    SeqStopsK Fence.wide n Try.prog 22 #[.pointer (some ⟨Bn, 0, none⟩)] (fun x : Int => #[Value.int .i64 x]) (fun W W' => W'.heap[Bn]? = W.heap[Bn]?) (fun ys => ys = touchT x0 y0 x1 y1) (fun pre => pre <+: touchT x0 y0 x1 y1) 64 w := fun l J Jx W hW hJ _ hY h0 =>
  touch_in n hn l Bn x0 y0 x1 y1 hx0 hy0 hx1 hy1 J Jx hY W hJ (by have := hW.size; omega) ((hW.block Bn (by omega)).trans hBn) h0

theorem box_of {W : World} {B : Nat} {v : Value} {t : TypeId} (h : W.heap[B]? = some (.cells #[v] t (0, 0))) : W.cell? ⟨B, 0, none⟩ = some v ∧ W.frozen? ⟨B, 0, none⟩ = false := by
  constructor <;> simp [World.cell?, World.frozen?, h]
theorem box_new (W : World) (v : Value) (t : TypeId) : (W.alloc (.cells #[v] t)).cell? ⟨W.heap.size, 0, none⟩ = some v ∧ (W.alloc (.cells #[v] t)).frozen? ⟨W.heap.size, 0, none⟩ = false :=
  box_of (World.alloc_heap_new W _)
set_option maxRecDepth 100000 in
set_option maxHeartbeats 1000000 in
theorem count_in (n : Nat) (hn : 3 ≤ n) (x0 y0 x1 y1 : Nat) (hx0 : x0 < 4294967296) (hy0 : y0 < 4294967296) (hx1 : x1 < 4294967296) (hy1 : y1 < 4294967296) (w : World) :
    CallsIn Fence.wide n Try.prog 20 #[.agg (rc x0 y0 x1 y1)] w fun e W' => e = .returned (.int .i64 ((touchT x0 y0 x1 y1).length : Int)) ∧ Below w.heap.size w W' := by
  have h1 : 1 ≤ n := by omega
  refine callsIn_of_wp_marks Try.func20 rfl trivial ?_ rfl
  simp only [Try.ntmps20, List.size_toArray, List.length_cons, List.length_nil, Nat.reduceAdd, Nat.reduceSub, Array.replicate_succ, Array.replicate_zero, List.push_toArray, List.append_toArray, List.nil_append, List.cons_append]
  iterate 26 gi_step
  have hb0 : ((w.alloc (.cells (rc x0 y0 x1 y1) 24)).alloc (.cells #[.int .i64 0] 3)).heap[w.heap.size]? = some (.cells (rc x0 y0 x1 y1) 24 (0, 0)) := (Below.heap_alloc _ _ _ (by simp)).trans (World.alloc_heap_new w _)
  refine wpListIn_load_row rfl 24 (.tmp 1) rfl w.heap.size rfl 24 (rc x0 y0 x1 y1) (0, 0) _ hb0 Try.underlying24 rfl (by kernel_rfl) ?_
  gi_wp2_with (refine ⟨trivial, ?_⟩; gi_at_call 19; refine (touched_in _ x0 y0 x1 y1 _).mono ?_; rintro e w' ⟨rfl, rfl⟩)
  have hs := box_new (w.alloc (.cells (rc x0 y0 x1 y1) 24)) (.int .i64 0) 3
  rw [World.size_alloc] at hs
  have hB0 : Below w.heap.size w (((w.alloc (.cells (rc x0 y0 x1 y1) 24)).alloc (.cells #[.int .i64 0] 3)).alloc (.cells (rc x0 y0 x1 y1) 24)) := (((Below.refl _ w).alloc (Nat.le_refl _) _).alloc (by simp) _).alloc (by simp; omega) _
  have hbx : (((w.alloc (.cells (rc x0 y0 x1 y1) 24)).alloc (.cells #[.int .i64 0] 3)).alloc (.cells (rc x0 y0 x1 y1) 24)).heap[w.heap.size + 1 + 1]? = some (.cells (rc x0 y0 x1 y1) 24 (0, 0)) := by
    have := World.alloc_heap_new ((w.alloc (.cells (rc x0 y0 x1 y1) 24)).alloc (.cells #[.int .i64 0] 3)) (.cells (rc x0 y0 x1 y1) 24 (0, 0))
    simpa using this
  refine wpIn_rangeFunc_ownF rfl h1 (gf := 22) (lb := #[.pointer (some ⟨w.heap.size + 1 + 1, 0, none⟩)]) rfl trivial (enters_of Try.func22 (by kernel_rfl) rfl)
    (touch_stops (n - 1) (by omega) (w.heap.size + 1 + 1) x0 y0 x1 y1 hx0 hy0 hx1 hy1 _ (by simp) hbx) (fun h k => k.trans h) ?kb (Below.refl _ _) (fun _ => rfl)
    (fun pre W => (W.cell? ⟨w.heap.size + 1, 0, none⟩ = some (.int .i64 (pre.length : Int)) ∧ W.frozen? ⟨w.heap.size + 1, 0, none⟩ = false) ∧ Below w.heap.size w W)
    (fun _ _ _ => False)
    (OwnFrom.and (Own.from (fun s A B row hs hg hr => ⟨cell_kept hs.1 hg hr, (frozen_kept hs.1 hg hr).trans hs.2⟩) _) (ownFrom_below (Nat.le_refl _) (by simp; omega)))
    (fun _ _ _ _ _ hs _ _ => hs)
    ⟨⟨((World.cell?_of_block (Below.heap_alloc _ _ _ (by simp))).trans hs.1), ((World.frozen?_of_block (Below.heap_alloc _ _ _ (by simp))).trans hs.2)⟩, hB0⟩
    (fun x => { tmps := #[.agg (rc x0 y0 x1 y1), .pointer (some ⟨w.heap.size, 0, none⟩), .int .i64 0, .pointer (some ⟨w.heap.size + 1, 0, none⟩), .agg (rc x0 y0 x1 y1), .func (.func 22) #[] #[.pointer (some ⟨w.heap.size + 1 + 1, 0, none⟩)], .int .i64 x, undef, undef, undef], defers := [] }) ?assign ?body ?done ?stop
  case kb =>
    intro W l o o' hl _ _ _
    refine World.putObj_heap_other ?_
    have : (((w.alloc (.cells (rc x0 y0 x1 y1) 24)).alloc (.cells #[.int .i64 0] 3)).alloc (.cells (rc x0 y0 x1 y1) 24)).heap.size = w.heap.size + 1 + 1 + 1 := by simp
    omega
  case assign =>
    intro l x W K hK
    gi_wp2
    simpa using hK
  case body =>
    rintro l pre x W ⟨⟨hc, hf⟩, hB⟩ hlt
    gi_wp2
    have e : ((pre.length : Int) + 1) = ((pre ++ [x]).length : Int) := by rw [List.length_append]; simp
    rw [e]
    exact ⟨KeepsOthers.setCell _ _ _, Below.heap_setCell W _ _ _ (by simp), ⟨World.cell?_setCell_same' _ _ _ (by rw [hc]; rfl), by rw [World.frozen?_setCell]; exact hf⟩, hB.setCell (p := ⟨w.heap.size + 1, 0, none⟩) (by simp) _⟩
  case done =>
    rintro D ys W hD rfl ⟨⟨hc, _⟩, hB⟩ hK
    gi_wp2
    refine ⟨by simp, .inl ⟨_, _, rfl, run_takeDeferred hK, ?_⟩⟩
    exact ⟨_, results_tmp rfl _ _ _, rfl, hB.trans (belowK_b (w := w) (Nat.le_refl _) W D _ _ (by simp at hD; omega) hK rfl rfl)⟩
  case stop =>
    rintro D c pre W _ _ h _
    exact h.elim
def rect_Count.f (a b c d : Int) : Option Int :=
  if 0 ≤ a ∧ a < 4294967296 ∧ 0 ≤ b ∧ b < 4294967296 ∧ 0 ≤ c ∧ c < 4294967296 ∧ 0 ≤ d ∧ d < 4294967296 then some ((touchT a.toNat b.toNat c.toNat d.toNat).length : Int) else none
theorem rect_Count.calls (a0_0 : Int) (a0_1 : Int) (a0_2 : Int) (a0_3 : Int) (r : Int) (w : World) (h : rect_Count.f a0_0 a0_1 a0_2 a0_3 = some r) :
    Calls Try.prog 20 #[.agg #[.int .u32 a0_0, .int .u32 a0_1, .int .u32 a0_2, .int .u32 a0_3]] w fun e w' => e = .returned (.int .i64 r) ∧ Below w.heap.size w w' := by
  unfold rect_Count.f at h
  split at h
  · rename_i hc
    obtain ⟨h0, h1, h2, h3, h4, h5, h6, h7⟩ := hc
    obtain ⟨n0, rfl⟩ := Int.eq_ofNat_of_zero_le h0
    obtain ⟨n1, rfl⟩ := Int.eq_ofNat_of_zero_le h2
    obtain ⟨n2, rfl⟩ := Int.eq_ofNat_of_zero_le h4
    obtain ⟨n3, rfl⟩ := Int.eq_ofNat_of_zero_le h6
    obtain rfl := Option.some.inj h
    exact callsIn_wide.1 (count_in 3 (Nat.le_refl _) n0 n1 n2 n3 (by omega) (by omega) (by omega) (by omega) w)
  · cases h
end

end Go.Proofs.Ytcemdkppkklfnaa.PAll
