/- The functions that the laws of this seat reach, as plain functions with proofs that the calls answer just so (written by a program of this session on the kit's print). -/
import Derived.Test.YtnhkpolfkmpldaaPAllx0
import Derived.Test.YtnhkpolfkmpldaaPAllx6
namespace Go.Proofs.Ytnhkpolfkmpldaa.PAll
open Go.RowKit Go.Proofs.YtnhkpolfkmpldaaW.PrintWords Go.Proofs.YtnhkpolfkmpldaaW.PrintLast Go.Proofs.YtnhkpolfkmpldaaW.PrintMore
attribute [local go_sem] max2_int min2_int max_two min_two max_three min_three max_four min_four   -- for this text's walks alone
set_option linter.unusedVariables false
set_option linter.unusedSimpArgs false

/-! ### seal_Go: function 40 -/
-- GIVEN rounds=0 making=1
def seal_Go.stp (i : Int) : Int := (seal_step.f 9 i).getD 0
theorem seal_Go.stp_at (x : Int) : seal_step.f 9 x = some (seal_Go.stp x) := by
  have l0 : ∀ k x i, 4 ≤ i → ∃ r, seal_step.l0 (k + 1) x i = some r := by
    intro k x i h; rw [seal_step.l0]; rw [if_neg (by omega)]; exact ⟨_, rfl⟩
  have st : ∀ k x i j, wrap64 (i + 1) = j → i < 4 → (∀ y, ∃ r, seal_step.l0 k y j = some r) → ∃ r, seal_step.l0 (k + 1) x i = some r := by
    intro k x i j e hi h; rw [seal_step.l0]; rw [if_pos hi]; split <;> (rw [e]; exact h _)
  have w3 : wrap64 (3 + 1) = 4 := by kernel_rfl
  have w2 : wrap64 (2 + 1) = 3 := by kernel_rfl
  have w1 : wrap64 (1 + 1) = 2 := by kernel_rfl
  have w0 : wrap64 (0 + 1) = 1 := by kernel_rfl
  obtain ⟨r, hr⟩ : ∃ r, seal_step.f 9 x = some r := by
    unfold seal_step.f
    exact st _ _ _ _ w0 (by decide) fun _ => st _ _ _ _ w1 (by decide) fun _ => st _ _ _ _ w2 (by decide) fun _ => st _ _ _ _ w3 (by decide) fun _ => l0 _ _ _ (by decide)
  unfold seal_Go.stp; rw [hr]; rfl
theorem seal_Go.step_c (x : Int) (w : World) : Calls Try.prog 42 #[.int .u32 x] w fun e w' => e = .returned (.int .u32 (seal_Go.stp x)) ∧ Drawn0 w w' :=
  seal_step.calls 9 x _ w (seal_Go.stp_at x)
def seal_Go.C (k : Nat) : Array Value := ((List.range 16).map fun j => Value.int .u32 (if j < k then seal_Go.stp j else 0)).toArray
theorem seal_Go.C_size (k : Nat) : (seal_Go.C k).size = 16 := by simp [seal_Go.C]
theorem seal_Go.C_get (k j : Nat) (h : j < 16) : (seal_Go.C k)[j]? = some (Value.int .u32 (if j < k then seal_Go.stp j else 0)) := by
  simp [seal_Go.C, h]
theorem seal_Go.C_set (k : Nat) (h : k < 16) : (seal_Go.C k).setIfInBounds k (.int .u32 (seal_Go.stp k)) = seal_Go.C (k + 1) := by
  unfold seal_Go.C
  rw [List.setIfInBounds_toArray]
  congr 1
  apply List.ext_getElem?
  intro i
  rw [List.getElem?_set]
  by_cases e : k = i
  · subst e; simp [h]
  · rw [if_neg e, List.getElem?_map, List.getElem?_map]
    by_cases hi : i < 16
    · have : (i < k) ↔ (i < k + 1) := by omega
      simp [hi, this]
    · simp [hi]
set_option maxHeartbeats 1000000 in
set_option maxRecDepth 100000 in
theorem seal_Go.table_c (w : World) : Calls Try.prog 41 #[] w fun e w' => e = .returned (.agg (seal_Go.C 16)) ∧ Below w.heap.size w w' := by
  go_enter Try.func41, Try.ntmps41
  go_wp2
  go_loopw [2, 3] (fun v2 v3 wr => ∃ k : Nat, k ≤ 16 ∧ v3 = .int .i64 k ∧ Aside0 (wr.heap[w.heap.size]? = some (.cells (seal_Go.C 0) 80 (0, 0))) ∧ Aside0 (wr.heap[w.heap.size + 1]? = some (.cells (seal_Go.C k) 80 (0, 0))) ∧ Below w.heap.size w wr) (fun _ v3 _ => 16 - (intOf v3).toNat)
  case atStart => exact ⟨0, by omega, rfl, Aside0.mk (heap_alloc2_old ..), Aside0.mk (heap_alloc2_new ..), below_alloc (below_alloc (Below.refl _ _) _) _⟩
  case round =>
    obtain ⟨k, hk, rfl, h0, h1, hb⟩ := hrel
    by_cases hlt : k < 16
    · have hc : wr.cell? ⟨w.heap.size + 1, k, none⟩ = some (.int .u32 0) := by rw [cell_of_row _ _ _ _ _ _ h1.out, seal_Go.C_get _ _ hlt]; simp
      have hf : wr.frozen? ⟨w.heap.size + 1, k, none⟩ = false := frozen_of_row _ _ _ _ _ h1.out
      go_wp2_with (go_at_call 42; (with_reducible refine (seal_Go.step_c _ _).mono ?_); rintro e w1 ⟨rfl, ⟨⟨n1, rfl⟩⟩⟩)
      go_roundw
      case rel =>
        refine ⟨k + 1, by omega, by go_num, Aside0.mk ?_, Aside0.mk ?_, below_set (pw_below_drewN hb _) (by simp)⟩
        · rw [heap_setCell_other _ _ _ _ (by simp)]; exact h0.out
        · rw [← seal_Go.C_set k hlt]; exact heap_setCell_same (wr.drewN n1) _ _ (seal_Go.C k) 80 _ h1.out
      case measure => simp [intOf]; omega
    · obtain rfl : k = 16 := by omega
      have hi : (Try.prog.info? 80).map (·.size) = some (seal_Go.C 16).size := by rw [seal_Go.C_size]; kernel_rfl
      have hs : (seal_Go.C 0).size = (seal_Go.C 16).size := by rw [seal_Go.C_size, seal_Go.C_size]
      have hone : (seal_Go.C 16).all (·.oneCell') = true := by simp [seal_Go.C, Value.oneCell']
      have Hi := Aside0.mk hi
      have Hs := Aside0.mk hs
      have Ho := Aside0.mk hone
      clear hi hs hone
      go_wp2_with (first
        | ((with_reducible refine wpList_load_row rfl 80 (.tmp 1) rfl (w.heap.size + 1) rfl 80 (seal_Go.C 16) (0, 0) _ h1.out Try.underlying80 rfl Hi.out ?_))
        | ((with_reducible refine wpList_store_row rfl 80 (.tmp 0) (.tmp 12) rfl w.heap.size (seal_Go.C 16) rfl rfl 80 (seal_Go.C 0) h0.out Hi.out Hs.out Ho.out ?_)))
      exact bodyPost_ret (v := .agg (seal_Go.C 16)) (results_cell_row Try.results41 _ _ w.heap.size 80 (seal_Go.C 16) (0, 0) _ rfl (setRow_heap _ _ _ _ _ _ h0.out) Try.underlying80 rfl Hi.out) rfl ⟨rfl, below_setRow hb (Nat.le_refl _) _⟩

def seal_Go.half (r c : Int) : Int := bits .xor .u32 (seal_Go.stp (bits .and .u32 (bits .xor .u32 r (c % 4294967296)) 15)) (r / 16)
def seal_Go.byte (r c : Int) : Int := seal_Go.half (seal_Go.half r c) (c / 16)
theorem seal_Go.and15 (x : Int) : 0 ≤ bits .and .u32 x 15 ∧ bits .and .u32 x 15 < 16 := by
  unfold bits
  have h : (BitVec.ofInt IntKind.u32.bits x &&& BitVec.ofInt IntKind.u32.bits 15).toNat ≤ 15 := by
    rw [BitVec.toNat_and]; exact Nat.and_le_right
  simp only
  rw [IntKind.wrap_u32']
  omega
def seal_Go.notu (x : Int) : Int := bits .xor .u32 IntKind.u32.max x
def seal_Go.v (a0 : Int) (l1 : List Int) : Int := seal_Go.notu (l1.foldl seal_Go.byte (seal_Go.notu a0))
def seal_Go.f (a0 : Int) (l1 : List Int) : Option (Int) := if l1.length ≤ 1073741824 then some (seal_Go.v a0 l1) else none
set_option maxHeartbeats 1000000 in
set_option maxRecDepth 100000 in
theorem seal_Go.calls (a0 : Int) (A1 : Option Addr) (c1 : Nat) (l1 : List Int) (r : Int) (w : World) (hr1 : Kd.C (Kd.int .u8) w A1 l1.length l1) (hc1 : l1.length ≤ c1) (h : seal_Go.f a0 l1 = some r) :
    Calls Try.prog 40 #[.int .u32 a0, .slice A1 l1.length c1] w fun e w' => e = .returned (.int .u32 r) ∧ Below w.heap.size w w' := by
  have hlen : l1.length ≤ 1073741824 := by
    by_cases hl : l1.length ≤ 1073741824
    · exact hl
    · rw [seal_Go.f, if_neg hl] at h; cases h
  rw [seal_Go.f, if_pos hlen] at h
  obtain rfl := Option.some.inj h
  clear h
  have HR := Aside0.mk hr1
  have HC := Aside0.mk hc1
  clear hr1 hc1
  have Hi : Aside0 ((Try.prog.info? 80).map (·.size) = some (seal_Go.C 16).size) := ⟨by rw [seal_Go.C_size]; kernel_rfl⟩
  have Hs : Aside0 ((seal_Go.C 0).size = (seal_Go.C 16).size) := ⟨by rw [seal_Go.C_size, seal_Go.C_size]⟩
  have Ho : Aside0 ((seal_Go.C 16).all (·.oneCell') = true) := ⟨by simp [seal_Go.C, Value.oneCell']⟩
  have Hz : ∀ W : World, Aside0 ((W.alloc (.cells #[.int .u32 0, .int .u32 0, .int .u32 0, .int .u32 0, .int .u32 0, .int .u32 0, .int .u32 0, .int .u32 0, .int .u32 0, .int .u32 0, .int .u32 0, .int .u32 0, .int .u32 0, .int .u32 0, .int .u32 0, .int .u32 0] 80)).heap[W.heap.size]? = some (.cells (seal_Go.C 0) 80 (0, 0))) := fun W => ⟨heap_alloc_new ..⟩
  go_enter Try.func40, Try.ntmps40
  go_wp2_with (first
    | (go_at_call 41; (with_reducible refine (seal_Go.table_c _).mono ?_); rintro e w1 ⟨rfl, hb⟩)
    | ((with_reducible refine wpList_store_row rfl 80 (.tmp 5) (.tmp 9) rfl w1.heap.size (seal_Go.C 16) rfl rfl 80 (seal_Go.C 0) (Hz _).out Hi.out Hs.out Ho.out ?_)))
  go_loopw [6, 14] (fun v6 v14 wr => ∃ k : Nat, k ≤ l1.length ∧ v14 = .int .i64 k ∧ v6 = .int .u32 ((l1.take k).foldl seal_Go.byte (seal_Go.notu a0)) ∧ Aside0 (wr.heap[w1.heap.size]? = some (.cells (seal_Go.C 16) 80 (0, 0))) ∧ Below w.heap.size w wr) (fun _ v14 _ => l1.length - (intOf v14).toNat)
  case atStart => 
    refine ⟨0, by omega, rfl, rfl, ⟨setRow_heap _ _ _ _ _ _ (Hz _).out⟩, below_setRow (below_alloc hb _) hb.size _⟩
  case round =>
    clear Hi Hs Ho Hz
    obtain ⟨k, hk, rfl, rfl, hrow, hbw⟩ := hrel
    by_cases hlt : k < l1.length
    · have p0 : 0 ≤ (k : Int) := by omega
      have q0 : (k : Int) < (l1.length : Int) := by omega
      obtain ⟨ad, ead, hx0⟩ := Kd.at_int HR.out (k : Int) p0 q0
      subst ead
      have hx : wr.cell? (ad.add k) = some (.int .u8 (rd l1 k)) := (hbw.cell (p := ad.add k) (block_lt_of_cell hx0)).trans hx0
      obtain ⟨rr, hrr⟩ : ∃ x, (l1.take k).foldl seal_Go.byte (seal_Go.notu a0) = x := ⟨_, rfl⟩
      rw [hrr]
      obtain ⟨j1, hj1⟩ : ∃ x, bits .and .u32 (bits .xor .u32 rr (rd l1 k % 4294967296)) 15 = x := ⟨_, rfl⟩
      have ⟨m1, m2⟩ : 0 ≤ j1 ∧ j1 < 16 := by rw [← hj1]; exact seal_Go.and15 _
      have hc1 : wr.cell? ⟨w1.heap.size, j1.toNat, none⟩ = some (.int .u32 (seal_Go.stp j1)) := by
        rw [cell_of_row _ _ _ _ _ _ hrow.out, seal_Go.C_get _ _ (by omega), if_pos (by omega)]; congr; omega
      obtain ⟨r2, hr2⟩ : ∃ x, bits .xor .u32 (seal_Go.stp j1) (rr / 16) = x := ⟨_, rfl⟩
      obtain ⟨j2, hj2⟩ : ∃ x, bits .and .u32 (bits .xor .u32 r2 (rd l1 k / 16 % 4294967296)) 15 = x := ⟨_, rfl⟩
      have ⟨m3, m4⟩ : 0 ≤ j2 ∧ j2 < 16 := by rw [← hj2]; exact seal_Go.and15 _
      have hc2 : wr.cell? ⟨w1.heap.size, j2.toNat, none⟩ = some (.int .u32 (seal_Go.stp j2)) := by
        rw [cell_of_row _ _ _ _ _ _ hrow.out, seal_Go.C_get _ _ (by omega), if_pos (by omega)]; congr; omega
      have hstep : Aside0 ((l1.take (k + 1)).foldl seal_Go.byte (seal_Go.notu a0) = bits .xor .u32 (seal_Go.stp j2) (r2 / 16)) := by
        constructor
        rw [List.take_succ_eq_append_getElem hlt, List.foldl_append, hrr]
        simp only [List.foldl_cons, List.foldl_nil]
        have e : l1[k] = rd l1 k := by simp [rd, hlt]
        rw [e, seal_Go.byte]
        simp only [seal_Go.half, hj1, hr2, hj2]
      clear hx0 hrr
      go_wp2
      go_roundw
      case rel => exact ⟨k + 1, by omega, by go_num, by rw [hstep.out], hrow, hbw⟩
      case measure => simp [intOf]; omega
    · obtain rfl : k = l1.length := by omega
      rw [List.take_length]
      obtain ⟨rr, hrr⟩ : ∃ x, l1.foldl seal_Go.byte (seal_Go.notu a0) = x := ⟨_, rfl⟩
      have hv : Aside0 (seal_Go.v a0 l1 = bits .xor .u32 IntKind.u32.max rr) := ⟨by rw [seal_Go.v, hrr]; rfl⟩
      rw [hrr]
      clear hrr
      go_wp2
      go_ret
      exact ⟨by rw [hv.out]; rfl, by repeat (first | exact hbw | apply pw_below_drewN | apply below_drew1)⟩

end Go.Proofs.Ytnhkpolfkmpldaa.PAll
