/- ParcelBatches: its walk. -/
import Derived.Test.YtnhkpolfkmpldaaJ3
namespace Go.Proofs.Ytnhkpolfkmpldaa.PAll
open Go.RowKit Go.Proofs.YtnhkpolfkmpldaaW.PrintWords Go.Proofs.YtnhkpolfkmpldaaW.PrintLast Go.Proofs.YtnhkpolfkmpldaaW.PrintMore
set_option linter.unusedVariables false
set_option linter.unusedSimpArgs false
attribute [local go_sem high] eqA27
theorem cells10 {w : World} {b : Nat} {T : TypeId} {v0 v1 v2 v3 v4 v5 v6 v7 v8 v9 : Value} (h : w.heap[b]? = some (.cells #[v0, v1, v2, v3, v4, v5, v6, v7, v8, v9] T (0, 0))) : w.cell? ⟨b, 0, none⟩ = some v0 ∧ w.cell? ⟨b, 1, none⟩ = some v1 ∧ w.cell? ⟨b, 2, none⟩ = some v2 ∧ w.cell? ⟨b, 3, none⟩ = some v3 ∧ w.cell? ⟨b, 4, none⟩ = some v4 ∧ w.cell? ⟨b, 5, none⟩ = some v5 ∧ w.cell? ⟨b, 6, none⟩ = some v6 ∧ w.cell? ⟨b, 7, none⟩ = some v7 ∧ w.cell? ⟨b, 8, none⟩ = some v8 ∧ w.cell? ⟨b, 9, none⟩ = some v9 :=
  ⟨(blk_cell h 0).trans rfl, (blk_cell h 1).trans rfl, (blk_cell h 2).trans rfl, (blk_cell h 3).trans rfl, (blk_cell h 4).trans rfl, (blk_cell h 5).trans rfl, (blk_cell h 6).trans rfl, (blk_cell h 7).trans rfl, (blk_cell h 8).trans rfl, (blk_cell h 9).trans rfl⟩
theorem cells3 {w : World} {b : Nat} {T : TypeId} {v0 v1 v2 : Value} (h : w.heap[b]? = some (.cells #[v0, v1, v2] T (0, 0))) : w.cell? ⟨b, 0, none⟩ = some v0 ∧ w.cell? ⟨b, 1, none⟩ = some v1 ∧ w.cell? ⟨b, 2, none⟩ = some v2 :=
  ⟨(blk_cell h 0).trans rfl, (blk_cell h 1).trans rfl, (blk_cell h 2).trans rfl⟩
def counterpanelaw33_ParcelBatches.T15 : Bool × List (List Nat × List Nat) := (true, [([], []), ([], []), ([0, 1], [0, 1]), ([2], [2]), ([], []), ([], []), ([4, 5], [4, 5]), ([6], [6]), ([3, 7], [3, 7]), ([8], [8])])
def counterpanelaw33_ParcelBatches.B15 : List Nat := [0, 0, 3, 7, 0, 0, 48, 112, 255, 511]
theorem counterpanelaw33_ParcelBatches.tab15 : rtab .any (opsOf Try.f6 15) = counterpanelaw33_ParcelBatches.T15 := by kernel_rfl
theorem counterpanelaw33_ParcelBatches.bits15 : waitsOk counterpanelaw33_ParcelBatches.T15.2 counterpanelaw33_ParcelBatches.B15 = true := by kernel_rfl
theorem batchB_le (L : List (List Int)) (h : ∀ x ∈ L, x.length ≤ 300) : (batchB L).length ≤ 302 * L.length := by
  induction L with
  | nil => simp [batchB]
  | cons x L ih =>
    rw [batchB_cons]
    have h1 := ih fun y hy => h y (List.mem_cons_of_mem _ hy)
    have h2 := h x (List.mem_cons_self ..)
    simp only [List.length_append, List.length_cons, putB_length]
    omega
theorem batchB_ge (L : List (List Int)) : L.length ≤ (batchB L).length := by
  induction L with
  | nil => simp
  | cons x L ih =>
    rw [batchB_cons]
    simp only [List.length_append, List.length_cons, putB_length]
    omega
theorem batchB_bytes (L : List (List Int)) (h : ∀ x ∈ L, Bytes x) : Bytes (batchB L) := by
  intro y hy
  simp only [batchB, List.mem_flatMap, List.mem_append] at hy
  obtain ⟨x, hx, hy | hy⟩ := hy
  · exact putB_bytes _ 2 y hy
  · exact h x hx y hy
set_option maxHeartbeats 8000000 in
set_option maxRecDepth 100000 in
theorem batches_core (W : World) (A0 : Option Addr) (c0 : Nat) (L : List (List Int)) (hC : Kd.C (Kd.slice 5 (Kd.int .u8)) W A0 L.length L) (hc : L.length ≤ c0) (hbl : ∀ x ∈ L, Bytes x) (A1 : Option Addr) (c1 : Nat) (l1 : List Int) (hR : Kd.C (Kd.int .u8) W A1 l1.length l1) (hc1 : l1.length ≤ c1) (hby : Bytes l1) :
    Calls Try.prog 6 #[.slice A0 L.length c0, .slice A1 l1.length c1] W fun e w' => e = .returned (.bool true) ∧ Below W.heap.size W w' := by
  have HB := Aside0.mk (Below.refl W.heap.size W)
  have hR0W := Aside0.mk hR
  have hC0 := Aside0.mk hC
  have hR0 := Aside0.mk hR
  have HBY := Aside0.mk hby
  have HBL := Aside0.mk hbl
  have hC0W := Aside0.mk hC
  clear hC hby hR hbl
  go_enter Try.func6, Try.ntmps6
  by_cases q1 : (60 : Int) < (L.length : Int)
  · skip
    have q1' := eq_true (show 60 < L.length by omega)
    replace q1 := eq_true q1
    go_wp2_with (go_at_call 8; refine (works_c _).mono ?_; rintro e w9 ⟨rfl, hb9⟩)
    go_ret
    exact ⟨rfl, below_step HB.out hb9⟩
  have q1n : Aside0 (L.length ≤ 60) := ⟨by omega⟩
  have q1' := eq_false (show ¬ 60 < L.length by omega)
  replace q1 := eq_false q1
  by_cases q2 : (3000 : Int) < (l1.length : Int)
  · skip
    have q2' := eq_true (show 3000 < l1.length by omega)
    replace q2 := eq_true q2
    go_wp2_with (go_at_call 8; refine (works_c _).mono ?_; rintro e w9 ⟨rfl, hb9⟩)
    go_ret
    exact ⟨rfl, below_step HB.out hb9⟩
  have q2n : Aside0 (l1.length ≤ 3000) := ⟨by omega⟩
  have q2' := eq_false (show ¬ 3000 < l1.length by omega)
  replace q2 := eq_false q2
  go_wp2_with fail
  go_loopg [5] (L.length) (fun kq v5 w' => ∃ (i : Nat), v5 = .int .i64 (i : Int) ∧ Aside0 (kq + i = L.length) ∧ Aside0 (∀ x ∈ L.take i, x.length ≤ 300) ∧ Aside0 (Below W.heap.size W w'))
  case atStart => exact ⟨0, rfl, ⟨by omega⟩, ⟨fun x h => by simp at h⟩, HB⟩
  case round =>
    clear HB hC0 hR0
    obtain ⟨i, rfl, HK1, HS, HB⟩ := hrel
    have hC0 := Aside0.mk (Kd.C_below hC0W.out HB.out)
    have hR0 := Aside0.mk (Kd.C_below hR0W.out HB.out)
    by_cases hi : i < L.length
    · skip
      obtain ⟨k1, rfl⟩ : ∃ k1, gk = k1 + 1 := ⟨gk - 1, by have := HK1.out; omega⟩
      have hti : L.take (i + 1) = L.take i ++ [L[i]] := by rw [List.take_add_one, List.getElem?_eq_getElem hi]; rfl
      replace hti := Aside0.mk hti
      obtain ⟨ad, Ax, cx, eA, hx, hxl, hxi⟩ := at_L6 hC0.out (i : Int) (by omega) (by omega)
      rw [rdL6_at hi] at hx hxl hxi
      rw [Int.toNat_natCast] at hx
      have hxl := Aside0.mk hxl
      have hxi := Aside0.mk hxi
      have p1 := eq_true (show (i : Int) < (L.length : Int) by omega)
      have p2 := eq_true (show 0 ≤ (i : Int) by omega)
      have hiA := Aside0.mk hi
      by_cases z1 : (300 : Int) < (L[i].length : Int)
      · skip
        have z1' := eq_true (show 300 < L[i].length by omega)
        replace z1 := eq_true z1
        cases eA
        go_wp2_with (go_at_call 8; refine (works_c _).mono ?_; rintro e w9 ⟨rfl, hb9⟩)
        go_ret
        exact ⟨rfl, below_step HB.out hb9⟩
      · skip
        have z1n : Aside0 (L[i].length ≤ 300) := ⟨by omega⟩
        have z1' := eq_false (show ¬ 300 < L[i].length by omega)
        replace z1 := eq_false z1
        cases eA
        go_wp2_with fail
        go_roundg k1
        case measure => exact Nat.lt_succ_self _
        case rel => exact ⟨i + 1, by first | rfl | (have hz_ := q1n.out; congr 1; unfold wrap64; omega), ⟨by have := HK1.out; omega⟩, ⟨fun x hx => by rw [hti.out] at hx; rcases List.mem_append.1 hx with h | h; exact HS.out x h; rw [List.mem_singleton.1 h]; exact z1n.out⟩, HB⟩
    · skip
      have hS : Aside0 (∀ x ∈ L, x.length ≤ 300) := ⟨fun x hx => HS.out x (by rw [List.take_of_length_le (by omega)]; exact hx)⟩
      clear HS HK1
      have p1 := eq_false (show ¬ (i : Int) < (L.length : Int) by omega)
      clear hi
      have hBl := Aside0.mk (batchB_le L hS.out)
      have hBb := Aside0.mk (batchB_bytes L HBL.out)
      go_wp2_with fail
      refine (batchE A0 c0 _ L _ rfl hC0.out hc (fun x hx => by have := hS.out x hx; omega) (by have := q1n.out; omega) (by have h1_ := hBl.out; have h2_ := q1n.out; omega) (batchB L) rfl).mono ?_
      rintro e w2 ⟨A2, c2, rfl, hc2, hC2, hb⟩
      replace HB := Aside0.mk (below_step HB.out hb)
      replace hC0 := Aside0.mk (Kd.C_below hC0.out hb)
      replace hR0 := Aside0.mk (Kd.C_below hR0.out hb)
      clear hb
      replace hC2 := Aside0.mk hC2
      go_wp2_with fail
      refine (isBatchE A2 c2 _ (batchB L) _ rfl hC2.out hc2 (by have h1_ := hBl.out; have h2_ := q1n.out; omega) L 0 (by rw [if_pos rfl]; have h_ := batch_put L ((batchB L).length + 1) [] (fun x hx => by have := hS.out x hx; omega) (by have := batchB_ge L; omega); simpa using h_) (.inl rfl)).mono ?_
      rintro e w3 ⟨A3, c3, rfl, hc3, hC3, hb⟩
      replace HB := Aside0.mk (below_step HB.out hb)
      replace hC0 := Aside0.mk (Kd.C_below hC0.out hb)
      replace hR0 := Aside0.mk (Kd.C_below hR0.out hb)
      replace hC2 := Aside0.mk (Kd.C_below hC2.out hb)
      clear hb
      replace hC3 := Aside0.mk hC3
      go_wp2_with fail
      refine (rbatchE A0 c0 _ L _ rfl hC0.out hc (by have := q1n.out; omega) (by have h1_ := hBl.out; have h2_ := q1n.out; omega) (batchB L) rfl).mono ?_
      rintro e w4 ⟨A4, c4, rfl, hc4, hC4, hb⟩
      replace HB := Aside0.mk (below_step HB.out hb)
      replace hC0 := Aside0.mk (Kd.C_below hC0.out hb)
      replace hR0 := Aside0.mk (Kd.C_below hR0.out hb)
      replace hC2 := Aside0.mk (Kd.C_below hC2.out hb)
      replace hC3 := Aside0.mk (Kd.C_below hC3.out hb)
      clear hb
      replace hC4 := Aside0.mk hC4
      go_wp2_with fail
      refine (sameE A2 c2 _ (batchB L) A4 c4 _ (batchB L) _ rfl rfl hC2.out hc2 hC4.out hc4 hBb.out hBb.out true (by simp)).mono ?_
      rintro e w5 ⟨rfl, hb⟩
      replace HB := Aside0.mk (below_step HB.out hb)
      replace hC0 := Aside0.mk (Kd.C_below hC0.out hb)
      replace hR0 := Aside0.mk (Kd.C_below hR0.out hb)
      replace hC2 := Aside0.mk (Kd.C_below hC2.out hb)
      replace hC3 := Aside0.mk (Kd.C_below hC3.out hb)
      replace hC4 := Aside0.mk (Kd.C_below hC4.out hb)
      clear hb
      go_wp2_with fail
      have HB5 := HB
      have hC05 := hC0
      have hC35 := hC3
      have hR05 := hR0
      clear HB
      go_loopg [10] (L.length) (fun kq v10 w' => ∃ (i : Nat), v10 = .int .i64 (i : Int) ∧ Aside0 (kq + i = L.length) ∧ Aside0 (Below w5.heap.size w5 w'))
      case atStart => exact ⟨0, rfl, ⟨by omega⟩, ⟨Below.refl _ _⟩⟩
      case round =>
        clear hC0 hC3 hR0 hC2 hC4
        obtain ⟨i, rfl, HK1, HB⟩ := hrel
        have hC0 := Aside0.mk (Kd.C_below hC05.out HB.out)
        have hC3 := Aside0.mk (Kd.C_below hC35.out HB.out)
        have hR0 := Aside0.mk (Kd.C_below hR05.out HB.out)
        by_cases hi : i < L.length
        · skip
          obtain ⟨k1, rfl⟩ : ∃ k1, gk = k1 + 1 := ⟨gk - 1, by have := HK1.out; omega⟩
          have p1 := eq_true (show (i : Int) < (L.length : Int) by omega)
          have p2 := eq_true (show 0 ≤ (i : Int) by omega)
          have hiA := Aside0.mk hi
          obtain ⟨ad3, Ax, cx, e3, hx, hxl, hxi⟩ := at_L6 hC3.out (i : Int) (by omega) (by omega)
          obtain ⟨ad0, Ay, cy, e0, hy, hyl, hyi⟩ := at_L6 hC0.out (i : Int) (by omega) (by omega)
          rw [rdL6_at hi] at hx hxl hxi hy hyl hyi
          rw [Int.toNat_natCast] at hx hy
          generalize hxe : L[i] = xi at hx hxl hxi hy hyl hyi
          have hbx := Aside0.mk (HBL.out xi (hxe ▸ List.getElem_mem hi))
          clear hxe
          replace hxl := Aside0.mk hxl
          replace hyl := Aside0.mk hyl
          replace hxi := Aside0.mk hxi
          replace hyi := Aside0.mk hyi
          cases e3
          cases e0
          go_wp2_with fail
          have hb := below_drew1 (Below.refl (World.heap wr).size wr)
          replace HB := Aside0.mk (below_step HB.out hb)
          replace hC0 := Aside0.mk (Kd.C_below hC0.out hb)
          replace hC3 := Aside0.mk (Kd.C_below hC3.out hb)
          replace hR0 := Aside0.mk (Kd.C_below hR0.out hb)
          replace hxi := Aside0.mk (Kd.C_below hxi.out hb)
          replace hyi := Aside0.mk (Kd.C_below hyi.out hb)
          replace hx := pw_cell_below hb hx
          replace hy := pw_cell_below hb hy
          clear hb
          refine start_ (n := 10) (S := fun w' => w'.cell? (ad3.add i) = some (.slice Ax xi.length cx) ∧ w'.cell? (ad0.add i) = some (.slice Ay xi.length cy)) (ds := []) #[false, false, false, false, false, false, false, false, false, false] (by kernel_rfl) rfl rfl ⟨hx, hy⟩ (fun hHeld => ?_)
          refine with_tabW counterpanelaw33_ParcelBatches.tab15 counterpanelaw33_ParcelBatches.bits15 (fun HT_ HW_ => ?_)
          generalize World.drew wr = wd at HB hC0 hC3 hR0 hxi hyi hx hy hHeld ⊢
          refine pure_ (i := 0) (N := some 71) (v := ?_) (a' := ?_) #[true, false, false, false, false, false, false, false, false, false] rfl rfl (any_of HT_.out (by kernel_rfl)) (fun _ _ _ h => h) (Or.inl ⟨by rfl, ?_⟩) ?_ ?_
          rotate_left
          · intro w'
            go_simp
            with_reducible rfl
          rotate_left
          · simp only [Act.put, List.setIfInBounds_toArray, List.set_cons_zero, List.set_cons_succ, i64_w, i32_w]
            rfl
          refine pure_ (i := 1) (N := some 72) (v := ?_) (a' := ?_) #[true, true, false, false, false, false, false, false, false, false] rfl rfl (any_of HT_.out (by kernel_rfl)) (fun _ _ _ h => h) (Or.inl ⟨by rfl, ?_⟩) ?_ ?_
          rotate_left
          · intro w'
            go_simp
            with_reducible rfl
          rotate_left
          · simp only [Act.put, List.setIfInBounds_toArray, List.set_cons_zero, List.set_cons_succ, i64_w, i32_w]
            rfl
          refine pure_ (i := 2) (N := some 73) (v := ?_) (a' := ?_) #[true, true, true, false, false, false, false, false, false, false] rfl rfl (any_of HT_.out (by kernel_rfl)) (fun _ _ _ h => h) (Or.inl ⟨by rfl, ?_⟩) ?_ ?_
          rotate_left
          · intro w'
            go_simp
            with_reducible rfl
          rotate_left
          · simp only [Act.put, List.setIfInBounds_toArray, List.set_cons_zero, List.set_cons_succ, i64_w, i32_w]
            rfl
          refine pure_ (i := 4) (N := some 75) (v := ?_) (a' := ?_) #[true, true, true, false, true, false, false, false, false, false] rfl rfl (any_of HT_.out (by kernel_rfl)) (fun _ _ _ h => h) (Or.inl ⟨by rfl, ?_⟩) ?_ ?_
          rotate_left
          · intro w'
            go_simp
            with_reducible rfl
          rotate_left
          · simp only [Act.put, List.setIfInBounds_toArray, List.set_cons_zero, List.set_cons_succ, i64_w, i32_w]
            rfl
          refine pure_ (i := 5) (N := some 76) (v := ?_) (a' := ?_) #[true, true, true, false, true, true, false, false, false, false] rfl rfl (any_of HT_.out (by kernel_rfl)) (fun _ _ _ h => h) (Or.inl ⟨by rfl, ?_⟩) ?_ ?_
          rotate_left
          · intro w'
            go_simp
            with_reducible rfl
          rotate_left
          · simp only [Act.put, List.setIfInBounds_toArray, List.set_cons_zero, List.set_cons_succ, i64_w, i32_w]
            rfl
          refine pure_ (i := 6) (N := some 77) (v := ?_) (a' := ?_) #[true, true, true, false, true, true, true, false, false, false] rfl rfl (any_of HT_.out (by kernel_rfl)) (fun _ _ _ h => h) (Or.inl ⟨by rfl, ?_⟩) ?_ ?_
          rotate_left
          · intro w'
            go_simp
            with_reducible rfl
          rotate_left
          · simp only [Act.put, List.setIfInBounds_toArray, List.set_cons_zero, List.set_cons_succ, i64_w, i32_w]
            rfl
          refine take_ (i := 3) (N := some 74) (v := ?_) (a' := ?_) #[true, true, true, true, true, true, true, false, false, false] rfl rfl (take_ofW HT_.out HW_.out (by kernel_rfl)) (fun _ _ _ h => h) (Or.inl ⟨by rfl, ?_⟩) hHeld ?_ ?_
          rotate_left
          · rintro w' ⟨s0, s1⟩
            go_simp
            with_reducible rfl
          rotate_left
          · simp only [Act.put, List.setIfInBounds_toArray, List.set_cons_zero, List.set_cons_succ, i64_w, i32_w]
            rfl
          refine take_ (i := 7) (N := some 78) (v := ?_) (a' := ?_) #[true, true, true, true, true, true, true, true, false, false] rfl rfl (take_ofW HT_.out HW_.out (by kernel_rfl)) (fun _ _ _ h => h) (Or.inl ⟨by rfl, ?_⟩) hHeld ?_ ?_
          rotate_left
          · rintro w' ⟨s0, s1⟩
            go_simp
            with_reducible rfl
          rotate_left
          · simp only [Act.put, List.setIfInBounds_toArray, List.set_cons_zero, List.set_cons_succ, i64_w, i32_w]
            rfl
          refine one_ (i := 8) (N := some 79) #[true, true, true, true, true, true, true, true, true, false] rfl rfl (one_of HT_.out (by kernel_rfl)) (by decide) (fun K hK => ?_)
          refine goes_ Try.func13 (by kernel_rfl) rfl #[.slice Ax xi.length cx, .slice Ay xi.length cy] (by rfl) rfl rfl (by simp only [List.map_toArray, List.map_cons, List.map_nil]; rfl) ?_
          with_reducible refine (sameE Ax cx _ xi Ay cy _ xi _ rfl rfl hxi.out hxl.out hyi.out hyl.out hbx.out hbx.out true (by simp)).mono ?_
          rintro e w9 ⟨rfl, hb5⟩
          refine ⟨_, rfl, ?_⟩
          replace HB := Aside0.mk (below_step HB.out hb5)
          replace hC0 := Aside0.mk (Kd.C_below hC0.out hb5)
          replace hC3 := Aside0.mk (Kd.C_below hC3.out hb5)
          replace hR0 := Aside0.mk (Kd.C_below hR0.out hb5)
          replace hxi := Aside0.mk (Kd.C_below hxi.out hb5)
          replace hyi := Aside0.mk (Kd.C_below hyi.out hb5)
          replace hx := pw_cell_below hb5 hx
          replace hy := pw_cell_below hb5 hy
          clear hb5
          refine hK.out _ _ ⟨hx, hy⟩ (fun hHeld => ?_)
          clear hK K
          refine norm_ (a' := ?_) ?_ ?_
          rotate_left
          · show Act.put _ (some 79) _ = _
            simp only [Act.put, List.setIfInBounds_toArray, List.set_cons_zero, List.set_cons_succ, i64_w, i32_w]
            rfl
          refine pure_ (i := 9) (N := some 80) (v := ?_) (a' := ?_) #[true, true, true, true, true, true, true, true, true, true] rfl rfl (any_of HT_.out (by kernel_rfl)) (fun _ _ _ h => h) (Or.inl ⟨by rfl, ?_⟩) ?_ ?_
          rotate_left
          · intro w'
            go_simp
            with_reducible rfl
          rotate_left
          · simp only [Act.put, List.setIfInBounds_toArray, List.set_cons_zero, List.set_cons_succ, i64_w, i32_w]
            rfl
          refine done_ (done_of HT_.out (by kernel_rfl)) ?_
          go_wp2_with fail
          go_roundg k1
          case measure => exact Nat.lt_succ_self _
          case rel => exact ⟨i + 1, by first | rfl | (have hz_ := q1n.out; have hz2_ := hiA.out; congr 1; unfold wrap64; omega), ⟨by have := HK1.out; omega⟩, HB⟩
        · skip
          have p1 := eq_false (show ¬ (i : Int) < (L.length : Int) by omega)
          replace HB := Aside0.mk (below_step HB5.out HB.out)
          clear HK1 hC0 hC3 hC05 hC35 hR05 HB5 hC0W
          obtain ⟨M, cd, hM⟩ : ∃ M : List (List Int), ∃ cd : Int, (batchGo (l1.length + 1) l1 [] = if cd = 0 then some M else none) ∧ (cd = 0 ∨ (cd = 3 ∧ M = [])) := by
            cases hq : batchGo (l1.length + 1) l1 [] with
            | none => exact ⟨[], 3, by simp, .inr ⟨rfl, rfl⟩⟩
            | some M => exact ⟨M, 0, by simp, .inl rfl⟩
          go_wp2_with fail
          refine (isBatchE A1 c1 _ l1 _ rfl hR0.out hc1 (by have := q2n.out; omega) M cd hM.1 hM.2).mono ?_
          rintro e w6 ⟨A6, c6, rfl, hc6, hC6, hb⟩
          replace HB := Aside0.mk (below_step HB.out hb)
          replace hR0 := Aside0.mk (Kd.C_below hR0.out hb)
          clear hb
          replace hC6 := Aside0.mk hC6
          rcases hM with ⟨hM, rfl | ⟨rfl, rfl⟩⟩
          · skip
            rw [if_pos rfl] at hM
            obtain ⟨M', e1, e2, e3, e4⟩ := batch_back _ l1 [] M HBY.out hM
            have eM : M' = M := by rw [e1]; rfl
            subst eM
            replace e2 := Aside0.mk e2
            replace e4 := Aside0.mk e4
            clear hM e1 e3
            go_wp2_with fail
            refine (rbatchE A6 c6 _ M' _ rfl hC6.out hc6 (by have h1_ := e4.out; have h2_ := q2n.out; omega) (by rw [e2.out]; have h2_ := q2n.out; omega) l1 e2.out.symm).mono ?_
            rintro e w7 ⟨A7, c7, rfl, hc7, hC7, hb⟩
            replace HB := Aside0.mk (below_step HB.out hb)
            replace hR0 := Aside0.mk (Kd.C_below hR0.out hb)
            replace hC6 := Aside0.mk (Kd.C_below hC6.out hb)
            clear hb
            replace hC7 := Aside0.mk hC7
            go_wp2_with fail
            refine (sameE A7 c7 _ l1 A1 c1 _ l1 _ rfl rfl hC7.out hc7 hR0.out hc1 HBY.out HBY.out true (by simp)).mono ?_
            rintro e w8 ⟨rfl, hb⟩
            replace HB := Aside0.mk (below_step HB.out hb)
            replace hR0 := Aside0.mk (Kd.C_below hR0.out hb)
            replace hC6 := Aside0.mk (Kd.C_below hC6.out hb)
            replace hC7 := Aside0.mk (Kd.C_below hC7.out hb)
            clear hb
            go_wp2_with (go_at_call 8; refine (works_c _).mono ?_; rintro e w9 ⟨rfl, hb9⟩)
            go_ret
            exact ⟨rfl, below_step HB.out hb9⟩
          · skip
            simp only [List.length_nil]
            go_wp2_with (go_at_call 8; refine (works_c _).mono ?_; rintro e w9 ⟨rfl, hb9⟩)
            go_ret
            exact ⟨rfl, below_step HB.out hb9⟩
theorem byte_wf {x : Int} (h : (Lit.int .u8 x).wf = true) : 0 ≤ x ∧ x < 256 := by
  simp [Lit.wf, IntKind.min, IntKind.max, IntKind.signed, IntKind.bits] at h; omega
theorem opByte : Opens2.Op Try.prog 5 (Kd.int .u8) (fun n => (Lit.int .u8 n).wf = true) := Opens2.op_int Try.underlying5 (by kernel_rfl)
theorem opBytes : Opens2.Op Try.prog 34 (Kd.slice 5 (Kd.int .u8)) (fun xs => xs.length ≤ maxLen ∧ ∀ x ∈ xs, (Lit.int .u8 x).wf = true) := Opens2.op_slice Try.underlying34 (by kernel_rfl) opByte
theorem counterpanelaw33_ParcelBatches.walk0 (W : World) (A0 : Option Addr) (c0 : Nat) (xs0 : List (List Int)) (hC0 : Kd.C (Kd.slice 5 (Kd.int .u8)) W A0 xs0.length xs0) (hc0 : xs0.length ≤ c0) (hm0 : xs0.length ≤ maxLen) (hok0 : ∀ x ∈ xs0, x.length ≤ maxLen ∧ ∀ y ∈ x, (Lit.int .u8 y).wf = true)
    (A1 : Option Addr) (c1 : Nat) (xs1 : List Int) (hC1 : Kd.C (Kd.int .u8) W A1 xs1.length xs1) (hc1 : xs1.length ≤ c1) (hm1 : xs1.length ≤ maxLen) (hok1 : ∀ x ∈ xs1, (Lit.int .u8 x).wf = true) :
    Calls Try.prog 6 #[.slice A0 xs0.length c0, .slice A1 xs1.length c1] W fun e w' => e = .returned (.bool true) ∧ Below W.heap.size W w' :=
  batches_core W A0 c0 xs0 hC0 hc0 (fun x hx y hy => byte_wf ((hok0 x hx).2 y hy)) A1 c1 xs1 hC1 hc1 (fun x hx => byte_wf (hok1 x hx))
end Go.Proofs.Ytnhkpolfkmpldaa.PAll
