/- The functions that the laws of this seat reach, as plain functions with proofs that the calls answer just so (written by a program of this session on the kit's print). -/
import Derived.Test.YtmmeioifbiakjaaPAllx0
import Derived.Test.YtmmeioifbiakjaaPAllx1
import Derived.Test.YtmmeioifbiakjaaPAllx6
import Derived.Test.YtmmeioifbiakjaaPAllx10
namespace Go.Proofs.Ytmmeioifbiakjaa.PAll
open Go.RowKit Go.Proofs.YtmmeioifbiakjaaW.PrintWords Go.Proofs.YtmmeioifbiakjaaW.PrintLast Go.Proofs.YtmmeioifbiakjaaW.PrintMore
attribute [local go_sem] max2_int min2_int max_two min_two max_three min_three max_four min_four   -- for this text's walks alone
set_option linter.unusedVariables false
set_option linter.unusedSimpArgs false

/-! ### counterpanelaw01_works: function 6 -/
-- GIVEN rounds=0 making=1

/-- A reader at block g: the bytes that are left, and whether something was wrong. -/
def Rd (W : World) (g : Nat) (xs : List Int) (wr : Bool) : Prop :=
  ∃ A c, W.heap[g]? = some (.cells #[.slice A xs.length c, .bool wr] 50 (0, 0)) ∧ xs.length ≤ c ∧ Kd.C (Kd.int .u8) W A xs.length xs ∧ (∀ ad, A = some ad → 0 < xs.length → ad.block ≠ g)
def takeF (xs : List Int) (wr : Bool) (n : Int) : List Int × List Int × Bool :=
  if wr = true ∨ n < 0 ∨ n > xs.length then ([], xs, true) else (xs.take n.toNat, xs.drop n.toNat, false)
/-- What a call of the reader's leaves: the reader's block alone may have changed. -/
def RdPost (w0 w : World) (g : Nat) (ys : List Int) (wr : Bool) (w' : World) : Prop := Rd w' g ys wr ∧ Below w0.heap.size w0 w' ∧ KeepBut w w' g none
def TakePost (w0 w : World) (g : Nat) (t : List Int × List Int × Bool) (e : Ending) (w' : World) : Prop :=
  ∃ A' c', e = .returned (.slice A' t.1.length c') ∧ t.1.length ≤ c' ∧ Kd.C (Kd.int .u8) w' A' t.1.length t.1 ∧ (∀ ad, A' = some ad → 0 < t.1.length → ad.block ≠ g) ∧ RdPost w0 w g t.2.1 t.2.2 w'

theorem Rd.keep {W W' : World} {g : Nat} {xs : List Int} {wr : Bool} (h : Rd W g xs wr) (hb : Below W.heap.size W W') : Rd W' g xs wr := by
  obtain ⟨A, c, h1, h2, h3, h4⟩ := h
  exact ⟨A, c, blk_below h1 hb, h2, Kd.C_below h3 hb, h4⟩
theorem Rd.set_wrong {W : World} {g : Nat} {xs : List Int} {wr : Bool} (h : Rd W g xs wr) (x : Bool) : Rd (W.setCell ⟨g, 1, none⟩ (.bool x)) g xs x := by
  obtain ⟨A, c, h1, h2, h3, h4⟩ := h
  exact ⟨A, c, by simpa using blk_set h1 1 (.bool x), h2, Kd.C_keep 0 h3 (KeepBut.set_ (KeepBut.refl W g none) 1 _) h4, h4⟩
theorem kp_set {W : World} {g : Nat} (j : Nat) (u : Value) : KeepBut W (W.setCell ⟨g, j, none⟩ u) g none := KeepBut.set_ (KeepBut.refl W g none) j u

set_option maxHeartbeats 1000000 in
set_option maxRecDepth 100000 in
theorem take_c (g : Nat) (xs : List Int) (wr : Bool) (n : Int) (w0 w : World) (hI : Rd w g xs wr) (hB : Below w0.heap.size w0 w) (hg : w0.heap.size ≤ g) :
    Calls Try.prog 20 #[.pointer (some ⟨g, 0, none⟩), .int .i64 n] w (TakePost w0 w g (takeF xs wr n)) := by
  have HI := Aside0.mk hI
  obtain ⟨A, c, hb, hc, hC, hf⟩ := hI
  have hc0 : w.cell? ⟨g, 0, none⟩ = some (.slice A xs.length c) := (blk_cell hb 0).trans rfl
  have hc1 : w.cell? ⟨g, 1, none⟩ = some (.bool wr) := (blk_cell hb 1).trans rfl
  have hf0 := blk_frozen hb 0
  have hf1 := blk_frozen hb 1
  have HC := Aside0.mk hC
  clear hC
  by_cases h1 : wr = true ∨ n < 0 ∨ n > xs.length
  · have ht : takeF xs wr n = ([], xs, true) := by unfold takeF; rw [if_pos h1]
    rw [ht]
    have fin : ∀ w', w' = w.setCell ⟨g, 1, none⟩ (.bool true) → TakePost w0 w g ([], xs, true) (.returned (.slice none 0 0)) w' := by
      rintro w' rfl
      exact ⟨none, 0, rfl, by simp, Kd.C_nil _ _, by simp, HI.out.set_wrong true, below_set hB hg, kp_set _ _⟩
    go_enter Try.func20, Try.ntmps20
    cases wr with
    | true =>
      go_wp2
      go_ret
      exact fin _ rfl
    | false =>
      by_cases h2 : n < 0
      · go_wp2
        go_ret
        exact fin _ rfl
      · have h3 : n > xs.length := by simpa [h2] using h1
        go_wp2
        go_ret
        exact fin _ rfl
  · have ht : takeF xs wr n = (xs.take n.toNat, xs.drop n.toNat, false) := by unfold takeF; rw [if_neg h1]
    rw [ht]
    have hw : wr = false := by cases wr <;> simp_all
    subst hw
    have h2 : ¬ n < 0 := by omega
    have h3 : ¬ n > xs.length := by omega
    have hn : n.toNat ≤ xs.length := by omega
    have fin : ∀ A2 c2, A2 = (if c = n.toNat then A else A.map (·.add n.toNat)) → c2 = c - n.toNat → TakePost w0 w g (xs.take n.toNat, xs.drop n.toNat, false) (.returned (.slice A n.toNat n.toNat)) (w.setCell ⟨g, 0, none⟩ (.slice A2 (xs.length - n.toNat) c2)) := by
      rintro A2 c2 rfl rfl
      have hk : KeepBut w (w.setCell ⟨g, 0, none⟩ (.slice (if c = n.toNat then A else A.map (·.add n.toNat)) (xs.length - n.toNat) (c - n.toNat))) g none := kp_set 0 _
      have e1 : (xs.take n.toNat).length = n.toNat := by rw [List.length_take]; omega
      have hd := Kd.C_drop HC.out hn hc
      rw [show n.toNat * (Kd.int .u8).sz = n.toNat from Nat.mul_one _] at hd
      have ht' := Kd.C_take HC.out hn
      have hf2 : ∀ ad, (if c = n.toNat then A else A.map (·.add n.toNat)) = some ad → 0 < (xs.drop n.toNat).length → ad.block ≠ g := by
        intro ad e2 hl
        rw [List.length_drop] at hl
        split at e2
        · exact hf ad e2 (by omega)
        · cases A with
          | none => cases e2
          | some a =>
            obtain rfl := Option.some.inj e2
            rw [add_block]
            exact hf a rfl (by omega)
      refine ⟨A, n.toNat, ?_, ?_, Kd.C_keep 0 ht' hk (fun ad e2 hl => hf ad e2 (by simp only [e1] at hl; omega)), fun ad e2 hl => hf ad e2 (by simp only [e1] at hl; omega), ⟨if c = n.toNat then A else A.map (·.add n.toNat), c - n.toNat, ?_, ?_, Kd.C_keep 0 hd hk hf2, hf2⟩, below_set hB hg, hk⟩
      · simp only [e1]
      · simp only [e1]; omega
      · have := blk_set hb 0 (.slice (if c = n.toNat then A else A.map (·.add n.toNat)) (xs.length - n.toNat) (c - n.toNat))
        simpa using this
      · simp only [List.length_drop]; omega
    go_enter Try.func20, Try.ntmps20
    go_wp2
    all_goals go_ret
    · exact fin _ _ (by simp [*]) (by simp [*])
    · exact fin _ _ (by simp [*]) (by simp [*])

theorem Rd.lt {W : World} {g : Nat} {xs : List Int} {wr : Bool} (h : Rd W g xs wr) : g < W.heap.size := by
  obtain ⟨A, c, h1, h2, h3, h4⟩ := h
  exact blk_lt h1
theorem rdPost_refl {w0 w : World} {g : Nat} {xs : List Int} {wr : Bool} (hI : Rd w g xs wr) (hB : Below w0.heap.size w0 w) {w' : World} (h : Below w.heap.size w w') : RdPost w0 w g xs wr w' :=
  ⟨hI.keep h, below_step hB h, KeepBut.of_below h g none⟩
theorem rdPost_trans {w0 w w1 w2 : World} {g : Nat} {xs ys : List Int} {wr wr' : Bool} (h1 : RdPost w0 w g xs wr w1) (h2 : RdPost w0 w1 g ys wr' w2) : RdPost w0 w g ys wr' w2 :=
  ⟨h2.1, h2.2.1, KeepBut.trans h1.2.2 h2.2.2 (.inl rfl)⟩

set_option maxHeartbeats 1000000 in
set_option maxRecDepth 100000 in
theorem right_c (g : Nat) (xs : List Int) (wr : Bool) (w0 w : World) (hI : Rd w g xs wr) (hB : Below w0.heap.size w0 w) :
    Calls Try.prog 13 #[.pointer (some ⟨g, 0, none⟩)] w fun e w' => e = .returned (.bool (!wr)) ∧ RdPost w0 w g xs wr w' := by
  have fin : ∀ w', Below w.heap.size w w' → RdPost w0 w g xs wr w' := fun w' h => rdPost_refl hI hB h
  obtain ⟨A, c, hb, hc, hC, hf⟩ := hI
  have hc1 : w.cell? ⟨g, 1, none⟩ = some (.bool wr) := (blk_cell hb 1).trans rfl
  have fin := Aside0.mk fin
  go_enter Try.func13, Try.ntmps13
  go_wp2
  go_ret
  exact ⟨rfl, fin.out _ (by repeat (first | (with_reducible first | exact Below.refl _ _ | apply below_alloc | apply pw_below_drewN | apply below_drew1) | exact Below.refl _ _))⟩
set_option maxHeartbeats 1000000 in
set_option maxRecDepth 100000 in
theorem left_c (g : Nat) (xs : List Int) (wr : Bool) (w0 w : World) (hI : Rd w g xs wr) (hB : Below w0.heap.size w0 w) :
    Calls Try.prog 18 #[.pointer (some ⟨g, 0, none⟩)] w fun e w' => e = .returned (.int .i64 (xs.length : Int)) ∧ RdPost w0 w g xs wr w' := by
  have fin : ∀ w', Below w.heap.size w w' → RdPost w0 w g xs wr w' := fun w' h => rdPost_refl hI hB h
  obtain ⟨A, c, hb, hc, hC, hf⟩ := hI
  have hc0 : w.cell? ⟨g, 0, none⟩ = some (.slice A xs.length c) := (blk_cell hb 0).trans rfl
  have fin := Aside0.mk fin
  go_enter Try.func18, Try.ntmps18
  go_wp2
  go_ret
  exact ⟨rfl, fin.out _ (by repeat (first | (with_reducible first | exact Below.refl _ _ | apply below_alloc | apply pw_below_drewN | apply below_drew1) | exact Below.refl _ _))⟩

/-- Are they noughts alone? -/
def noughts (xs : List Int) : Bool := xs.all (· == 0)
theorem rd_get {xs : List Int} {i : Nat} (h : i < xs.length) : rd xs (i : Int) = xs[i] := by
  simp [rd, List.getD_eq_getElem?_getD, List.getElem?_eq_getElem h]
theorem noughts_step {xs : List Int} {i : Nat} (h : i < xs.length) (h1 : noughts (xs.take i) = true) (h2 : rd xs (i : Int) = 0) : noughts (xs.take (i + 1)) = true := by
  rw [rd_get h] at h2
  unfold noughts at *
  rw [List.take_add_one, List.all_append, h1, List.getElem?_eq_getElem h]
  simp [h2]
theorem noughts_not {xs : List Int} {i : Nat} (h : i < xs.length) (h2 : ¬ rd xs (i : Int) = 0) : noughts xs = false := by
  rw [rd_get h] at h2
  unfold noughts
  rw [List.all_eq_false]
  exact ⟨xs[i], List.getElem_mem h, by simpa using h2⟩
theorem noughts_all {xs : List Int} {i : Nat} (h : ¬ i < xs.length) (h1 : noughts (xs.take i) = true) : noughts xs = true := by
  rwa [List.take_of_length_le (by omega)] at h1
set_option maxHeartbeats 1000000 in
set_option maxRecDepth 100000 in
theorem noughts_c (g : Nat) (xs : List Int) (bad : Bool) (w0 w : World) (hI : Rd w g xs bad) (hB : Below w0.heap.size w0 w) :
    Calls Try.prog 19 #[.pointer (some ⟨g, 0, none⟩)] w fun e w' => e = .returned (.bool (noughts xs && !bad)) ∧ RdPost w0 w g xs bad w' := by
  have fin : ∀ w', Below w.heap.size w w' → RdPost w0 w g xs bad w' := fun w' h => rdPost_refl hI hB h
  have fin := Aside0.mk fin
  obtain ⟨A, c, hb, hc, hC, hf⟩ := hI
  have hlen : xs.length ≤ 9223372036854775807 := hC.2.1
  have hc0 : w.cell? ⟨g, 0, none⟩ = some (.slice A xs.length c) := (blk_cell hb 0).trans rfl
  have HW1 := Aside0.mk ((blk_cell hb 1).trans rfl : w.cell? ⟨g, 1, none⟩ = some (.bool bad))
  have HC := Aside0.mk hC
  clear hC hb
  go_enter Try.func19, Try.ntmps19
  go_wp2
  go_loopg [10] (xs.length) (fun kq v10 w' => ∃ (i : Nat), v10 = .int .i64 (i : Int) ∧ Aside0 (kq + i = xs.length) ∧ Aside0 (noughts (xs.take i) = true) ∧ Aside0 (Below w.heap.size w w'))
  case atStart => exact ⟨0, rfl, ⟨by omega⟩, ⟨by simp [noughts]⟩, ⟨by repeat (first | (with_reducible first | exact Below.refl _ _ | apply below_alloc | apply pw_below_drewN | apply below_drew1) | exact Below.refl _ _)⟩⟩
  case round =>
    clear hc0
    obtain ⟨i, rfl, HK1, HN, HB⟩ := hrel
    have hcw : wr.cell? ⟨g, 1, none⟩ = some (.bool bad) := pw_cell_below HB.out HW1.out
    by_cases hi : i < xs.length
    · obtain ⟨k1, rfl⟩ : ∃ k1, gk = k1 + 1 := ⟨gk - 1, by have := HK1.out; omega⟩
      have p1 := eq_true (show (i : Int) < (xs.length : Int) by omega)
      have p2 := eq_true (show 0 ≤ (i : Int) by omega)
      obtain ⟨ad, e, hx⟩ := Kd.at_int HC.out (i : Int) (by omega) (by omega)
      cases e
      replace hx := pw_cell_below HB.out hx
      simp only [Int.toNat_natCast] at hx
      by_cases h0 : rd xs (i : Int) = 0
      · have h0a : (rd xs (i : Int) == 0) = true := beq_iff_eq.mpr h0
        have h0b : (rd xs (i : Int) != 0) = false := bne_eq_false_iff_eq.mpr h0
        have e1 : wrap64 ((i : Int) + 1) = ((i + 1 : Nat) : Int) := by unfold wrap64; omega
        have HN2 := Aside0.mk (noughts_step hi HN.out h0)
        clear h0
        go_wp2
        go_roundg k1
        case measure => omega
        case rel => exact ⟨i + 1, by first | rfl | (rw [e1]) | simp [e1], ⟨by have := HK1.out; omega⟩, HN2, HB⟩
      · have h0a : (rd xs (i : Int) == 0) = false := beq_eq_false_iff_ne.mpr h0
        have h0b : (rd xs (i : Int) != 0) = true := bne_iff_ne.mpr h0
        have hN := noughts_not hi h0
        go_wp2
        go_ret
        exact ⟨by rw [hN]; rfl, fin.out _ (by repeat (first | (with_reducible first | exact HB.out | apply below_alloc | apply pw_below_drewN | apply below_drew1) | exact HB.out))⟩
    · have p1 := eq_false (show ¬ (i : Int) < (xs.length : Int) by omega)
      have hN := noughts_all hi HN.out
      go_wp2
      go_ret
      exact ⟨by rw [hN]; simp, fin.out _ (by repeat (first | (with_reducible first | exact HB.out | apply below_alloc | apply pw_below_drewN | apply below_drew1) | exact HB.out))⟩

/-- The number that bytes are, as the program tells it. -/
def getL (n : Int) (xs : List Int) : Int := xs.foldl (fun n c => Go.bits .or .u64 (IntKind.u64.wrap (n * 256)) (IntKind.u64.wrap c)) n
def getN (xs : List Int) : Int := getL 0 (xs.drop (xs.length - 8))
theorem get_l0 (xs : List Int) (hl : xs.length ≤ 9223372036854775806) : ∀ (m i : Nat) (n : Int), i + m = xs.length → word_Get.l0 (m + 1) n xs (xs.length : Int) (i : Int) = some (getL n (xs.drop i))
  | 0, i, n, h => by
    unfold word_Get.l0
    rw [if_neg (by omega), List.drop_of_length_le (by omega)]
    rfl
  | m + 1, i, n, h => by
    unfold word_Get.l0
    have e1 : wrap64 ((i : Int) + 1) = ((i + 1 : Nat) : Int) := by unfold wrap64; omega
    rw [if_pos (by omega), if_pos (by omega), if_pos (by omega), e1, get_l0 xs hl m (i + 1) _ (by omega), rd_get (by omega : i < xs.length)]
    conv => rhs; rw [List.drop_eq_getElem_cons (by omega : i < xs.length)]
    rfl
theorem get_f (xs : List Int) (hl : xs.length ≤ 9223372036854775806) : word_Get.f (xs.length + 1) xs = some (getN xs) := by
  unfold word_Get.f getN
  have e : mx (wrap64 ((xs.length : Int) - 8)) 0 = ((xs.length - 8 : Nat) : Int) := by unfold mx wrap64; omega
  rw [e, if_pos (by omega), if_pos (by omega), Int.toNat_natCast]
  have hd : (xs.drop (xs.length - 8)).length = xs.length - (xs.length - 8) := List.length_drop
  have := get_l0 (xs.drop (xs.length - 8)) (by omega) (xs.drop (xs.length - 8)).length 0 0 (by omega)
  rw [List.drop_zero] at this
  have hm : ∀ j r, word_Get.l0 ((xs.drop (xs.length - 8)).length + 1) 0 (xs.drop (xs.length - 8)) ((xs.drop (xs.length - 8)).length : Int) 0 = some r → word_Get.l0 ((xs.drop (xs.length - 8)).length + 1 + j) 0 (xs.drop (xs.length - 8)) ((xs.drop (xs.length - 8)).length : Int) 0 = some r := by
    intro j
    induction j with
    | zero => exact fun r h => h
    | succ j ih => exact fun r h => word_Get.mono_l _ _ _ _ _ _ (ih r h)
  have h2 := hm (xs.length + 1 - ((xs.drop (xs.length - 8)).length + 1)) _ this
  rwa [show (xs.drop (xs.length - 8)).length + 1 + (xs.length + 1 - ((xs.drop (xs.length - 8)).length + 1)) = xs.length + 1 by omega] at h2

set_option maxHeartbeats 1000000 in
set_option maxRecDepth 100000 in
theorem num_c (g : Nat) (xs : List Int) (bad : Bool) (n : Int) (w0 w : World) (hI : Rd w g xs bad) (hB : Below w0.heap.size w0 w) (hg : w0.heap.size ≤ g) (hl : xs.length ≤ 9223372036854775806) :
    Calls Try.prog 15 #[.pointer (some ⟨g, 0, none⟩), .int .i64 n] w fun e w' => e = .returned (.int .u64 (getN (takeF xs bad n).1)) ∧ RdPost w0 w g (takeF xs bad n).2.1 (takeF xs bad n).2.2 w' := by
  have ht := Aside0.mk (take_c g xs bad n w0 w hI hB hg)
  have hl1 : (takeF xs bad n).1.length ≤ 9223372036854775806 := by
    unfold takeF; split
    · simp
    · simp only [List.length_take]; omega
  generalize takeF xs bad n = t at ht hl1 ⊢
  go_enter Try.func15, Try.ntmps15
  go_wp2_with fail
  refine ht.out.mono ?_
  rintro e w1 ⟨A1, c1, rfl, hc1, hC1, hf1, hP⟩
  have hP := Aside0.mk hP
  have hC1 := Aside0.mk hC1
  go_wp2_with fail
  refine (word_Get.calls (t.1.length + 1) A1 c1 t.1 (getN t.1) w1 hC1.out hc1 (get_f _ hl1)).mono ?_
  rintro e w2 ⟨rfl, hb⟩
  go_wp2
  go_ret
  exact ⟨rfl, rdPost_trans hP.out (rdPost_refl hP.out.1 hP.out.2.1 hb)⟩

set_option maxHeartbeats 1000000 in
set_option maxRecDepth 100000 in
theorem read_c (A0 : Option Addr) (c0 : Nat) (l0 : List Int) (w : World) (hr0 : Kd.C (Kd.int .u8) w A0 l0.length l0) (hc0 : l0.length ≤ c0) (hl : l0.length < 140737488355328) :
    Calls Try.prog 9 #[.slice A0 l0.length c0] w fun e w' => ∃ g, e = .returned (.pointer (some ⟨g, 0, none⟩)) ∧ w.heap.size ≤ g ∧ Rd w' g l0 false ∧ Below w.heap.size w w' := by
  have HR0 := Aside0.mk hr0
  have HC0 := Aside0.mk hc0
  clear hr0 hc0
  have HB := Aside0.mk (Below.refl w.heap.size w)
  obtain ⟨y126, hy126⟩ : ∃ y_ : List Int, y_ = (([] : List Int)) := ⟨_, rfl⟩
  have LMc4 := Aside0.mk (show y126.length + l0.length < 140737488355328 by subst hy126; simpa using hl)
  have Ny126 := Aside0.mk hy126
  clear hy126
  obtain ⟨y129, hy129⟩ : ∃ y_ : List Int, y_ = (y126 ++ l0) := ⟨_, rfl⟩
  have Ny129 := Aside0.mk hy129
  clear hy129
  have fin : ∀ (W : World) (v : Value), Below w.heap.size w W → Kd.R (Kd.int .u8) 5 W w.heap.size (fun _ => True) v y129 →
      ∃ g, Ending.returned (.pointer (some ⟨W.heap.size, 0, none⟩)) = .returned (.pointer (some ⟨g, 0, none⟩)) ∧ w.heap.size ≤ g ∧ Rd (W.alloc (.cells #[v, .bool false] 50)) g l0 false ∧ Below w.heap.size w (W.alloc (.cells #[v, .bool false] 50)) := by
    intro W v hB hR
    have hy : y129 = l0 := by rw [Ny129.out, Ny126.out]; rfl
    rw [hy] at hR
    obtain ⟨A, c, rfl⟩ := Kd.R_slice hR
    have hr := Kd.R_reads' hR
    refine ⟨W.heap.size, rfl, hB.size, ⟨A, c, by simpa using heap_alloc_new W _, hr.2.1, Kd.C_below hr.2.2 (below_alloc (Below.refl _ _) _), ?_⟩, below_alloc hB _⟩
    rintro ad rfl hp e
    have hx := (Kd.reads_of_C (enc := Value.int .u8) (d := (0 : Int)) (h1 := fun _ => rfl) hr.2.2).2.2 hp
    obtain ⟨ad', e', hx⟩ := hx
    cases e'
    have := World.block_lt_of_cell? W _ (hx 0 hp)
    rw [add_block] at this
    omega
  have fin := Aside0.mk fin
  go_enter Try.func9, Try.ntmps9
  go_wp2_with (first | ((with_reducible refine gate_dst (N := 3) rfl ?_); refine Kd.R_lit (Kd.int .u8) _ 5 ?hg (N := 3) ?hd (xs := ([] : List Int)) (inner := []) (ok := fun _ => True) (okp := fun _ => True) ?hr ?hp (fun _ hk => hk) trivial (Below.refl _ _) (Nat.le_refl _) (by simp) ?_; (case hd => rfl); (case hg => rfl); (case hr => first | (go_simp; done) | (go_simp; rfl)); (case hp => exact (Reps.none _ _)); intro v127 w5 ho6 hb hg_ hnew_; clear hg_ hnew_; (first | rw [← Ny126.out] at ho6 | (simp only [Int.reduceToNat] at ho6; rw [← Ny126.out] at ho6)); have n0_ := Aside0.mk (Kd.R_lower ho6 (below_size (by repeat (first | (with_reducible first | exact HB.out | apply below_alloc | apply pw_below_drewN | apply below_drew1) | exact HB.out)))); have n1_ := Aside0.mk (below_step (by repeat (first | (with_reducible first | exact HB.out | apply below_alloc | apply pw_below_drewN | apply below_drew1) | exact HB.out)) hb); clear HB; have HO128 := n0_; have HB := n1_; clear n0_ n1_; clear hb ho6) | ((with_reducible refine gate_builtin (b := .append) (xs := #[.tmp 3, .tmp 4]) rfl ?_); at_builtin; refine Kd.R_append_rows (Kd.int .u8) (w0 := w) w.heap.size rfl (.tmp 3) (.tmp 4) 22 5 (.int .u8 0) 1 rfl Try.underlying22 info5 rfl (by decide) (by omega) v127 y126 l0 _ _ _ (fun _ => True) (fun _ => False) rfl rfl ?aO ?aR (fun _ _ h => h) (fun _ h => h.elim) ?aF ?aB ?aS ?aL ?_; (case aR => repeat (first | exact (Kd.C_below HR0.out HB.out) | (with_reducible refine Kd.C_alloc ?_ _) | (with_reducible refine Kd.C_drewN ?_ _) | (with_reducible refine Kd.C_drew ?_))); (case aB => exact (by repeat (first | (with_reducible first | exact HB.out | apply below_alloc | apply pw_below_drewN | apply below_drew1) | exact HB.out))); (case aF => exact (fun _ _ => trivial)); (case aO => exact (by (with_reducible repeat (first | apply Kd.R_alloc | apply Kd.R_drewN | apply Kd.R_drew)); exact HO128.out)); (case aS => exact (below_size (by repeat (first | (with_reducible first | exact HB.out | apply below_alloc | apply pw_below_drewN | apply below_drew1) | exact HB.out)))); (case aL => have := LMc4.out; omega); intro v130 w7 ho hb hg hat; obtain ⟨A130, c130, rfl⟩ := Kd.R_slice ho; rw [← Ny129.out] at ho; have n0_ := Aside0.mk (hb); have n1_ := Aside0.mk (ho); clear HB; clear HO128; have HB := n0_; have HO131 := n1_; clear n0_ n1_; clear ho hb hg hat))
  go_ret
  have hlen : y129.length = y126.length + l0.length := by rw [Ny129.out, List.length_append]
  have HO := HO131.out
  rw [hlen] at HO
  exact fin.out _ _ HB.out HO


/-- Bytes. -/
def Bytes (xs : List Int) : Prop := ∀ x ∈ xs, 0 ≤ x ∧ x < 256
/-- The text of a field, and whether it is one. -/
def fieldF (b : List Int) : Option (List Int) :=
  if b.length < 1 ∨ rd b 0 ≥ b.length then none else if noughts (b.drop (1 + (rd b 0).toNat)) then some ((b.take (1 + (rd b 0).toNat)).drop 1) else none
/-- What Text tells of what Take told: the text, what is left, and whether something was wrong. -/
def textG (t : List Int × List Int × Bool) : List Int × List Int × Bool :=
  match t.2.2, fieldF t.1 with
  | false, some s => (s, t.2.1, false)
  | _, _ => ([], t.2.1, true)
def textF (xs : List Int) (bad : Bool) (n : Int) : List Int × List Int × Bool := textG (takeF xs bad n)
theorem textG_bad (b ys : List Int) : textG (b, ys, true) = ([], ys, true) := by unfold textG; rfl
theorem textG_none {b ys : List Int} (h : fieldF b = none) : textG (b, ys, false) = ([], ys, true) := by unfold textG; simp [h]
theorem textG_some {b ys s : List Int} (h : fieldF b = some s) : textG (b, ys, false) = (s, ys, false) := by unfold textG; simp [h]

theorem rdPost_wrong {w0 w w1 : World} {g : Nat} {xs : List Int} {bad : Bool} (hg : w0.heap.size ≤ g) (h : RdPost w0 w g xs bad w1) : RdPost w0 w g xs true (w1.setCell ⟨g, 1, none⟩ (.bool true)) :=
  ⟨h.1.set_wrong true, below_set h.2.1 hg, KeepBut.set_ h.2.2 1 _⟩

set_option maxHeartbeats 1000000 in
set_option maxRecDepth 100000 in
theorem text_c (g : Nat) (xs : List Int) (bad : Bool) (n : Int) (w0 w : World) (hI : Rd w g xs bad) (hB : Below w0.heap.size w0 w) (hg : w0.heap.size ≤ g) (hl : xs.length ≤ 9223372036854775806) (hx : Bytes xs) :
    Calls Try.prog 10 #[.pointer (some ⟨g, 0, none⟩), .int .i64 n] w fun e w' => e = .returned (.string (strOfNums (textF xs bad n).1)) ∧ RdPost w0 w g (textF xs bad n).2.1 (textF xs bad n).2.2 w' := by
  have ht := Aside0.mk (take_c g xs bad n w0 w hI hB hg)
  have hl1 : (takeF xs bad n).1.length ≤ 9223372036854775806 := by
    unfold takeF; split
    · simp
    · simp only [List.length_take]; omega
  have hx1 : Bytes (takeF xs bad n).1 := by
    unfold takeF; split
    · intro x h; cases h
    · exact fun x h => hx x (List.mem_of_mem_take h)
  unfold textF
  generalize takeF xs bad n = t at ht hl1 hx1 ⊢
  obtain ⟨b, ys, bd⟩ := t
  simp only at *
  go_enter Try.func10, Try.ntmps10
  go_wp2_with fail
  refine ht.out.mono ?_
  rintro e w1 ⟨A1, c1, rfl, hc1, hC1, hf1, hP⟩
  replace hC1 : Kd.C (Kd.int .u8) w1 A1 b.length b := hC1
  replace hc1 : b.length ≤ c1 := hc1
  replace hf1 : ∀ ad, A1 = some ad → 0 < b.length → ad.block ≠ g := hf1
  replace hP : RdPost w0 w g ys bd w1 := hP
  replace hP := Aside0.mk hP
  replace hC1 := Aside0.mk hC1
  have hcw : w1.cell? ⟨g, 1, none⟩ = some (.bool bd) ∧ w1.frozen? ⟨g, 1, none⟩ = false := by
    obtain ⟨A, c, h1, _⟩ := hP.out.1
    exact ⟨(blk_cell h1 1).trans rfl, blk_frozen h1 1⟩
  obtain ⟨hcw, hfw⟩ := hcw
  have bad_ := Aside0.mk (rdPost_wrong hg hP.out)
  by_cases hbd : bd = true
  · subst hbd
    go_wp2
    go_ret
    exact ⟨by first | rfl | simp, bad_.out⟩
  · replace hbd : bd = false := by simpa using hbd
    subst hbd
    by_cases h1 : b.length < 1
    · have q1 := eq_true (show (b.length : Int) < 1 by omega)
      have hF : fieldF b = none := by unfold fieldF; rw [if_pos (.inl h1)]
      go_wp2
      go_ret
      rw [textG_none hF]
      exact ⟨rfl, bad_.out⟩
    · have q1 := eq_false (show ¬ (b.length : Int) < 1 by omega)
      obtain ⟨ad, e, hx0⟩ := Kd.at_int hC1.out 0 (by decide) (by omega)
      cases e
      obtain ⟨m, hm⟩ : ∃ m : Nat, rd b 0 = m := by
        have := hx1 (rd b 0) (by rw [show (0 : Int) = ((0 : Nat) : Int) from rfl, rd_get (by omega : 0 < b.length)]; exact List.getElem_mem _)
        exact ⟨(rd b 0).toNat, by omega⟩
      have hm2 : m < 256 := by
        have := hx1 (rd b 0) (by rw [show (0 : Int) = ((0 : Nat) : Int) from rfl, rd_get (by omega : 0 < b.length)]; exact List.getElem_mem _)
        omega
      rw [hm] at hx0
      simp at hx0
      rw [show ad.add 0 = ad by unfold Addr.add; cases ad; simp] at hx0
      have q2 : 0 < b.length := by omega
      have e1 : wrap64 (m : Int) = m := by unfold wrap64; omega
      have e2 : wrap64 (1 + (m : Int)) = 1 + (m : Int) := by unfold wrap64; omega
      by_cases h2 : m ≥ b.length
      · have q3 := eq_true (show (b.length : Int) ≤ (m : Int) by omega)
        have q3' := eq_true h2
        have hF : fieldF b = none := by unfold fieldF; rw [if_pos (.inr (by omega))]
        go_wp2
        go_ret
        rw [textG_none hF]
        exact ⟨rfl, bad_.out⟩
      · have q3 := eq_false (show ¬ (b.length : Int) ≤ (m : Int) by omega)
        have q3' := eq_false h2
        have q4 := eq_true (show 0 ≤ 1 + (m : Int) by omega)
        have q5 := eq_true (show 1 + (m : Int) ≤ (b.length : Int) by omega)
        obtain ⟨i0, hi0, _, hsz, _⟩ := info_parts info5
        obtain ⟨A5, hcut5, hA5, hC5⟩ := print_drop_of (P := Try.prog) (Value.int .u8) 0 22 5 .i64 Try.underlying22 hi0 hsz (some ad) c1 b (1 + (m : Int)) (by omega) (by omega) hc1
        have HR5 := Kd.C_of_reads (h1 := fun _ => rfl) (hA5 _ (Kd.reads_of_C hC1.out))
        obtain ⟨A6, hcut6, hA6, hC6⟩ := print_mid_of (P := Try.prog) (Value.int .u8) 0 22 5 .i64 .i64 Try.underlying22 hi0 hsz (some ad) c1 b 1 (1 + (m : Int)) (by omega) (by omega) (by omega) hc1
        have HR6 := Kd.C_of_reads (h1 := fun _ => rfl) (hA6 _ (Kd.reads_of_C hC1.out))
        have ej : (1 + (m : Int)).toNat = 1 + m := by omega
        have ej1 : (1 : Int).toNat = 1 := rfl
        rw [ej] at hcut5 HR5 hC5 hcut6 HR6 hC6
        rw [ej1] at hcut6 HR6 hC6
        have l5 : (b.drop (1 + m)).length = b.length - (1 + m) := List.length_drop
        have l6 : ((b.take (1 + m)).drop 1).length = m := by rw [List.length_drop, List.length_take]; omega
        rw [l5] at hcut5
        rw [l6] at hcut6
        replace HR5 := Aside0.mk HR5
        replace HR6 := Aside0.mk HR6
        have step_ : ∀ w', Below w1.heap.size w1 w' → RdPost w0 w g ys false w' := fun w' h => rdPost_trans hP.out (rdPost_refl hP.out.1 hP.out.2.1 h)
        replace step_ := Aside0.mk step_
        have hcw' := Aside0.mk hcw
        have hfw' : ∀ w', RdPost w0 w g ys false w' → w'.frozen? ⟨g, 1, none⟩ = false := by
          intro w' h
          obtain ⟨A, c, h1, _⟩ := h.1
          exact blk_frozen h1 1
        replace hfw' := Aside0.mk hfw'
        have hfield : fieldF b = if noughts (b.drop (1 + m)) then some ((b.take (1 + m)).drop 1) else none := by
          unfold fieldF
          rw [if_neg (by omega), hm, Int.toNat_natCast]
        replace hfield := Aside0.mk hfield
        generalize hz : b.drop (1 + m) = zs at HR5 l5 hfield hA5
        clear hA5 hA6 hz hi0 hsz
        go_wp2
        go_loopg [42] (zs.length) (fun kq v42 w' => ∃ (i : Nat), v42 = .int .i64 (i : Int) ∧ Aside0 (kq + i = zs.length) ∧ Aside0 (noughts (zs.take i) = true) ∧ Aside0 (Below w1.heap.size w1 w'))
        case atStart => exact ⟨0, rfl, ⟨by omega⟩, ⟨by simp [noughts]⟩, ⟨by repeat (first | (with_reducible first | exact Below.refl _ _ | apply below_alloc | apply pw_below_drewN | apply below_drew1) | exact Below.refl _ _)⟩⟩
        case round =>
          clear hx0
          obtain ⟨i, rfl, HK1, HN, HB⟩ := hrel
          have hcr : wr.cell? ⟨g, 1, none⟩ = some (.bool false) := pw_cell_below HB.out hcw'.out
          have hfr := hfw'.out _ (step_.out _ HB.out)
          by_cases hi : i < zs.length
          · obtain ⟨k1, rfl⟩ : ∃ k1, gk = k1 + 1 := ⟨gk - 1, by have := HK1.out; omega⟩
            have p1 := eq_true (show (i : Int) < ((b.length - (1 + m) : Nat) : Int) by omega)
            have p1' := eq_true (show i < b.length - (1 + m) by omega)
            have p2 := eq_true (show 0 ≤ (i : Int) by omega)
            obtain ⟨ad5, e, hx⟩ := Kd.at_int HR5.out (i : Int) (by omega) (by omega)
            cases e
            replace hx := pw_cell_below HB.out hx
            simp only [Int.toNat_natCast] at hx
            by_cases h0 : rd zs (i : Int) = 0
            · have h0a : (rd zs (i : Int) == 0) = true := beq_iff_eq.mpr h0
              have h0b : (rd zs (i : Int) != 0) = false := bne_eq_false_iff_eq.mpr h0
              have e3 : wrap64 ((i : Int) + 1) = ((i + 1 : Nat) : Int) := by unfold wrap64; omega
              have HN2 := Aside0.mk (noughts_step hi HN.out h0)
              clear h0
              replace e3 := Aside0.mk e3
              go_wp2
              go_roundg k1
              case measure => exact Nat.lt_succ_self _
              case rel => exact ⟨i + 1, by first | rfl | rw [e3.out], ⟨by have := HK1.out; clear e1 e2 e3; omega⟩, HN2, HB⟩
            · have h0a : (rd zs (i : Int) == 0) = false := beq_eq_false_iff_ne.mpr h0
              have h0b : (rd zs (i : Int) != 0) = true := bne_iff_ne.mpr h0
              have hF : fieldF b = none := by rw [hfield.out, noughts_not hi h0]; rfl
              replace hF := Aside0.mk hF
              go_wp2
              go_ret
              rw [textG_none hF.out]
              exact ⟨rfl, rdPost_wrong hg (step_.out _ (by repeat (first | (with_reducible first | exact HB.out | apply below_alloc | apply pw_below_drewN | apply below_drew1) | exact HB.out)))⟩
          · have p1 := eq_false (show ¬ (i : Int) < ((b.length - (1 + m) : Nat) : Int) by omega)
            have p1' := eq_false (show ¬ i < b.length - (1 + m) by omega)
            have hF : fieldF b = some ((b.take (1 + m)).drop 1) := by rw [hfield.out, noughts_all hi HN.out]; rfl
            replace hF := Aside0.mk hF
            have hcv := Kd.C_string (P := Try.prog) (A := A6) (c := c1 - 1) Try.underlying22 Try.underlying5 Try.underlying9 (Kd.C_below HR6.out HB.out)
            rw [l6] at hcv
            go_wp2
            go_ret
            rw [textG_some hF.out]
            exact ⟨by first | rfl | simp, step_.out _ (by repeat (first | (with_reducible first | exact HB.out | apply below_alloc | apply pw_below_drewN | apply below_drew1) | exact HB.out))⟩

theorem lit_c (W : World) (C : Array Value) (xs : List Int) (fr : Nat × Nat) (hC : C = (xs.map (Value.int .u8)).toArray) (hl : xs.length ≤ 9223372036854775807) :
    Kd.C (Kd.int .u8) (W.alloc (.cells C 5 fr)) (some ⟨W.heap.size, 0, none⟩) xs.length xs := by
  refine Kd.C_of_reads (enc := Value.int .u8) (d := (0 : Int)) (h1 := fun _ => rfl) ⟨rfl, hl, fun _ => ⟨_, rfl, fun j hj => ?_⟩⟩
  have hadd : (⟨W.heap.size, 0, none⟩ : Addr).add j = ⟨W.heap.size, j, none⟩ := by unfold Addr.add; simp [Eq.comm]
  rw [hadd, cell_of_row _ _ _ _ _ _ (heap_alloc_new W _), hC]
  simp [hj]
theorem works_put (w : World) (C : Array Value) (hC : C = #[.int .u8 9]) :
    Calls Try.prog 21 #[.slice (some ⟨w.heap.size, 0, none⟩) 1 1, .int .u16 513, .int .i64 3] (w.alloc (.cells C 5)) fun e w' => ∃ A c, e = .returned (.slice A 4 c) ∧ Kd.C (Kd.int .u8) w' A 4 [9, 0, 2, 1] ∧ Below w.heap.size w w' :=
  (word_Put_uint16.calls 10 _ _ [9] 513 3 [9, 0, 2, 1] _ (lit_c w C [9] (0, 0) (by rw [hC]; rfl) (by decide)) (Nat.le_refl _) (by kernel_rfl)).mono fun e w' ⟨v, h1, hr, h2⟩ => by
    obtain ⟨A, c, rfl⟩ := Kd.R_slice hr
    exact ⟨A, c, h1, (Kd.R_reads' hr).2.2, (below_alloc (Below.refl _ _) _).trans (h2.mono (by simp))⟩
theorem works_text1 (w : World) :
    Calls Try.prog 7 #[.slice none 0 0, .string ⟨#[97, 98]⟩, .int .i64 4] w fun e w' => ∃ A c, e = .returned (.tuple #[.slice A 4 c, .int .i64 0]) ∧ Kd.C (Kd.int .u8) w' A 4 [2, 97, 98, 0] ∧ Below w.heap.size w w' :=
  (word_Text.calls 10 none 0 [] ⟨#[97, 98]⟩ 4 [2, 97, 98, 0] 0 w (Kd.C_nil _ _) (Nat.le_refl _) (by kernel_rfl)).mono fun e w' ⟨v, h1, hr, h2⟩ => by
    obtain ⟨A, c, rfl⟩ := Kd.R_slice hr
    exact ⟨A, c, h1, (Kd.R_reads' hr).2.2, h2⟩
theorem works_text2 (w : World) :
    Calls Try.prog 7 #[.slice none 0 0, .string ⟨#[97, 98, 99, 100]⟩, .int .i64 4] w fun e w' => ∃ v, e = .returned (.tuple #[v, .int .i64 9]) ∧ Below w.heap.size w w' :=
  (word_Text.calls 10 none 0 [] ⟨#[97, 98, 99, 100]⟩ 4 [] 9 w (Kd.C_nil _ _) (Nat.le_refl _) (by kernel_rfl)).mono fun e w' ⟨v, h1, hr, h2⟩ => ⟨v, h1, h2⟩
theorem works_read (xs : List Int) (w : World) (C : Array Value) (n : Nat) (hn : n = xs.length) (hC : C = (xs.map (Value.int .u8)).toArray) (hl : xs.length < 1000) :
    Calls Try.prog 9 #[.slice (some ⟨w.heap.size, 0, none⟩) n n] (w.alloc (.cells C 5)) fun e w' => ∃ g, e = .returned (.pointer (some ⟨g, 0, none⟩)) ∧ w.heap.size ≤ g ∧ Rd w' g xs false ∧ Below w.heap.size w w' := by
  subst hn
  exact (read_c _ _ xs _ (lit_c w C xs (0, 0) hC (by omega)) (Nat.le_refl _) (by omega)).mono fun e w' ⟨g, h1, h2, h3, h4⟩ => ⟨g, h1, by simp at h2; omega, h3, (below_alloc (Below.refl _ _) _).trans (h4.mono (by simp))⟩
theorem works_get (w : World) (C : Array Value) (hC : C = #[.int .u8 1, .int .u8 0]) :
    Calls Try.prog 22 #[.slice (some ⟨w.heap.size, 0, none⟩) 2 2] (w.alloc (.cells C 5)) fun e w' => e = .returned (.int .u64 256) ∧ Below w.heap.size w w' :=
  (word_Get.calls 10 _ _ [1, 0] 256 _ (lit_c w C [1, 0] (0, 0) (by rw [hC]; rfl) (by decide)) (Nat.le_refl _) (by kernel_rfl)).mono fun e w' ⟨h1, h2⟩ => ⟨h1, (below_alloc (Below.refl _ _) _).trans (h2.mono (by simp))⟩
set_option maxHeartbeats 2000000 in
set_option maxRecDepth 100000 in
theorem counterpanelaw01_works.calls0 (w : World) :
    Calls Try.prog 6 #[] w fun e w' => e = .returned (.bool true) ∧ Below w.heap.size w w' := by
  go_enter Try.func6, Try.ntmps6
  go_wp2_with fail
  refine (works_put _ _ rfl).mono ?_
  rintro e w1 ⟨A1, c1, rfl, hC1, hb1⟩
  replace hC1 := Aside0.mk hC1
  go_wp2_with fail
  refine (works_text1 _).mono ?_
  rintro e w2 ⟨A2, c2, rfl, hC2, hb2⟩
  replace hC2 := Aside0.mk hC2
  go_wp2_with fail
  refine (works_text2 _).mono ?_
  rintro e w3 ⟨v3, rfl, hb3⟩
  go_wp2_with fail
  refine (works_read [2, 1, 1, 120, 0, 7] _ _ _ rfl rfl (by decide)).mono ?_
  rintro e w4 ⟨g, rfl, hg, hR4, hb4⟩
  replace hR4 := Aside0.mk hR4
  go_wp2_with fail
  refine (num_c g _ _ 2 w3 _ hR4.out hb4 hg (by decide)).mono ?_
  rintro e w5 ⟨rfl, hp5⟩
  replace hp5 : Aside0 (RdPost w3 w4 g [1, 120, 0, 7] false w5) := ⟨hp5⟩
  have e5 : getN (takeF [2, 1, 1, 120, 0, 7] false 2).1 = 513 := by kernel_rfl
  rw [e5]
  go_wp2_with fail
  refine (text_c g _ _ 3 w3 _ hp5.out.1 hp5.out.2.1 hg (by decide) (by unfold Bytes; decide)).mono ?_
  rintro e w6 ⟨rfl, hp6⟩
  have e6 : textF [1, 120, 0, 7] false 3 = ([120], [7], false) := by kernel_rfl
  rw [e6] at hp6 ⊢
  replace hp6 : Aside0 (RdPost w3 w5 g [7] false w6) := ⟨hp6⟩
  have e6s : strOfNums [120] = ⟨#[120]⟩ := by kernel_rfl
  simp only [e6s]
  go_wp2_with fail
  refine (left_c g _ _ w3 _ hp6.out.1 hp6.out.2.1).mono ?_
  rintro e w7 ⟨rfl, hp7⟩
  replace hp7 := Aside0.mk hp7
  go_wp2_with fail
  refine (take_c g _ _ 2 w3 _ hp7.out.1 hp7.out.2.1 hg).mono ?_
  rintro e w8 ⟨A8, c8, rfl, hc8, hC8, hf8, hp8⟩
  replace hp8 : Aside0 (RdPost w3 w7 g [7] true w8) := ⟨hp8⟩
  have hd1 : Below w1.heap.size w1 w8 := hb2.trans ((hb3.mono hb2.size).trans (hp8.out.2.1.mono (Nat.le_trans hb2.size hb3.size)))
  have hd2 : Below w2.heap.size w2 w8 := hb3.trans (hp8.out.2.1.mono hb3.size)
  have hcv1 : ∀ c : Nat, (convert 22 9 (.slice A1 4 c)).run Try.prog w8 = .ok (.string ⟨#[9, 0, 2, 1]⟩) w8 := fun c => (show strOfNums [9, 0, 2, 1] = ⟨#[9, 0, 2, 1]⟩ by kernel_rfl) ▸ Kd.C_string Try.underlying22 Try.underlying5 Try.underlying9 (Kd.C_below hC1.out hd1)
  have hcv2 : ∀ c : Nat, (convert 22 9 (.slice A2 4 c)).run Try.prog w8 = .ok (.string ⟨#[2, 97, 98, 0]⟩) w8 := fun c => (show strOfNums [2, 97, 98, 0] = ⟨#[2, 97, 98, 0]⟩ by kernel_rfl) ▸ Kd.C_string Try.underlying22 Try.underlying5 Try.underlying9 (Kd.C_below hC2.out hd2)
  go_wp2_with fail
  refine (right_c g _ _ w3 _ hp8.out.1 hp8.out.2.1).mono ?_
  rintro e w9 ⟨rfl, hp9⟩
  replace hp9 := Aside0.mk hp9
  go_wp2_with fail
  refine (works_get _ _ rfl).mono ?_
  rintro e w10 ⟨rfl, hb10⟩
  go_wp2_with fail
  refine (works_read [0] _ _ _ rfl rfl (by decide)).mono ?_
  rintro e w11 ⟨g11, rfl, hg11, hR11, hb11⟩
  replace hR11 := Aside0.mk hR11
  go_wp2_with fail
  refine (noughts_c g11 _ _ w10 _ hR11.out hb11).mono ?_
  rintro e w12 ⟨rfl, hp12⟩
  have e12 : (noughts [0] && !false) = true := rfl
  rw [e12]
  go_wp2_with fail
  refine (works_read [1] _ _ _ rfl rfl (by decide)).mono ?_
  rintro e w13 ⟨g13, rfl, hg13, hR13, hb13⟩
  replace hR13 := Aside0.mk hR13
  go_wp2_with fail
  refine (noughts_c g13 _ _ w12 _ hR13.out hb13).mono ?_
  rintro e w14 ⟨rfl, hp14⟩
  have e14 : (noughts [1] && !false) = false := rfl
  rw [e14]
  go_wp2_with fail
  go_ret
  have k3 : Below w.heap.size w w3 := hb1.trans ((hb2.mono hb1.size).trans (hb3.mono (Nat.le_trans hb1.size hb2.size)))
  have k9 : Below w.heap.size w w9 := k3.trans (hp9.out.2.1.mono k3.size)
  have k10 : Below w.heap.size w w10 := k9.trans (hb10.mono k9.size)
  have k12 : Below w.heap.size w w12 := k10.trans (hp12.2.1.mono k10.size)
  exact ⟨rfl, k12.trans (hp14.2.1.mono k12.size)⟩
def counterpanelaw01_works.f : Option Bool := some true
theorem counterpanelaw01_works.calls (r : Bool) (w : World) (h : counterpanelaw01_works.f = some r) :
    Calls Try.prog 6 #[] w fun e w' => e = .returned (.bool r) ∧ Below w.heap.size w w' := by
  obtain rfl := Option.some.inj h
  exact counterpanelaw01_works.calls0 w

end Go.Proofs.Ytmmeioifbiakjaa.PAll
