/- The functions that the laws of this seat reach, as plain functions with proofs that the calls answer just so (written by a program of this session on the kit's print). -/
import Derived.Test.YtfdomnkiikklaaaPAllx0
import Derived.Test.YtfdomnkiikklaaaPAllx3
import Derived.Test.YtfdomnkiikklaaaPAllx4
import Derived.Test.YtfdomnkiikklaaaPAllx5
import Derived.Test.YtfdomnkiikklaaaPAllx6
namespace Go.Proofs.Ytfdomnkiikklaaa.PAll
open Go.RowKit Go.Proofs.YtfdomnkiikklaaaW.PrintWords Go.Proofs.YtfdomnkiikklaaaW.PrintLast Go.Proofs.YtfdomnkiikklaaaW.PrintMore
attribute [local go_sem] max2_int min2_int max_two min_two max_three min_three max_four min_four   -- for this text's walks alone
set_option linter.unusedVariables false
set_option linter.unusedSimpArgs false

/-! ### counterpanelaw02_works: function 7 -/
-- GIVEN rounds=0 making=1
def counterpanelaw02_works.f : Option (Bool) := some true
theorem counterpanelaw02_works.lit (W : World) (C : Array Value) (xs : List Int) (fr : Nat × Nat) (hC : C = (xs.map (Value.int .u8)).toArray) (hl : xs.length ≤ 9223372036854775807) :
    Kd.C (Kd.int .u8) (W.alloc (.cells C 5 fr)) (some ⟨W.heap.size, 0, none⟩) xs.length xs := by
  refine Kd.C_of_reads (enc := Value.int .u8) (d := (0 : Int)) (h1 := fun _ => rfl) ⟨rfl, hl, fun _ => ⟨_, rfl, fun j hj => ?_⟩⟩
  have hadd : (⟨W.heap.size, 0, none⟩ : Addr).add j = ⟨W.heap.size, j, none⟩ := by unfold Addr.add; simp [Eq.comm]
  rw [hadd, cell_of_row _ _ _ _ _ _ (heap_alloc_new W _), hC]
  simp [hj]
theorem counterpanelaw02_works.sum_c (xs : List Int) (r : Int) (h : seal_Sum.f xs = some r) (W : World) (C : Array Value) (fr : Nat × Nat) (n : Nat) (hn : n = xs.length) (hC : C = (xs.map (Value.int .u8)).toArray) (hl : xs.length ≤ 9223372036854775807) :
    Calls Try.prog 8 #[.slice (some ⟨W.heap.size, 0, none⟩) n n] (W.alloc (.cells C 5 fr)) fun e w' => e = .returned (.int .u32 r) ∧ Below W.heap.size W w' := by
  subst hn
  exact (seal_Sum.calls _ _ xs r _ (counterpanelaw02_works.lit W C xs fr hC hl) (Nat.le_refl _) h).mono fun e w' hh => ⟨hh.1, (below_alloc (Below.refl _ _) _).trans (hh.2.mono (by simp))⟩
theorem counterpanelaw02_works.go_c (a : Int) (xs : List Int) (r : Int) (h : seal_Go.f a xs = some r) (W : World) (C : Array Value) (fr : Nat × Nat) (n : Nat) (hn : n = xs.length) (hC : C = (xs.map (Value.int .u8)).toArray) (hl : xs.length ≤ 9223372036854775807) :
    Calls Try.prog 10 #[.int .u32 a, .slice (some ⟨W.heap.size, 0, none⟩) n n] (W.alloc (.cells C 5 fr)) fun e w' => e = .returned (.int .u32 r) ∧ Below W.heap.size W w' := by
  subst hn
  exact (seal_Go.calls a _ _ xs r _ (counterpanelaw02_works.lit W C xs fr hC hl) (Nat.le_refl _) h).mono fun e w' hh => ⟨hh.1, (below_alloc (Below.refl _ _) _).trans (hh.2.mono (by simp))⟩
theorem counterpanelaw02_works.get_c (xs : List Int) (r1 : List Int) (r2 : Bool) (h : seal_Get.f xs = some (r1, r2)) (W : World) (C : Array Value) (fr : Nat × Nat) (n : Nat) (hn : n = xs.length) (hC : C = (xs.map (Value.int .u8)).toArray) (hl : xs.length ≤ 9223372036854775807) :
    Calls Try.prog 12 #[.slice (some ⟨W.heap.size, 0, none⟩) n n] (W.alloc (.cells C 5 fr)) fun e w' => ∃ v, e = .returned (.tuple #[v, .bool r2]) ∧ Below W.heap.size W w' := by
  subst hn
  exact (seal_Get.calls _ _ xs r1 r2 _ (counterpanelaw02_works.lit W C xs fr hC hl) (Nat.le_refl _) h).mono fun e w' ⟨v, h1, _, h2⟩ => ⟨v, h1, (below_alloc (Below.refl _ _) _).trans (h2.mono (by simp))⟩
theorem counterpanelaw02_works.put_c (xs : List Int) (r : List Int) (h : seal_Put.f xs = some r) (W : World) (C : Array Value) (fr : Nat × Nat) (n m : Nat) (hn : n = xs.length) (hm : m = r.length) (hC : C = (xs.map (Value.int .u8)).toArray) (hl : xs.length ≤ 9223372036854775807) :
    Calls Try.prog 11 #[.slice (some ⟨W.heap.size, 0, none⟩) n n] (W.alloc (.cells C 5 fr)) fun e w' => ∃ A c, e = .returned (.slice A m c) ∧ m ≤ c ∧ Kd.C (Kd.int .u8) w' A r.length r ∧ Below W.heap.size W w' := by
  subst hn hm
  exact (seal_Put.calls _ _ xs r _ (counterpanelaw02_works.lit W C xs fr hC hl) (Nat.le_refl _) h).mono fun e w' ⟨v, h1, hr, h2⟩ => by
    obtain ⟨A, c, rfl⟩ := Kd.R_slice hr
    exact ⟨A, c, h1, (Kd.R_reads' hr).2.1, (Kd.R_reads' hr).2.2, (below_alloc (Below.refl _ _) _).trans (h2.mono (by simp))⟩
theorem counterpanelaw02_works.get2_c (xs : List Int) (r1 : List Int) (r2 : Bool) (h : seal_Get.f xs = some (r1, r2)) (W : World) (A : Option Addr) (c n m : Nat) (hn : n = xs.length) (hm : m = r1.length) (hr : Aside0 (Kd.C (Kd.int .u8) W A xs.length xs)) (hc : n ≤ c) :
    Calls Try.prog 12 #[.slice A n c] W fun e w' => ∃ A1 c1, e = .returned (.tuple #[.slice A1 m c1, .bool r2]) ∧ Aside0 (Kd.C (Kd.int .u8) w' A1 r1.length r1) ∧ Below W.heap.size W w' := by
  subst hn hm
  exact (seal_Get.calls _ _ xs r1 r2 _ hr.out hc h).mono fun e w' ⟨v, h1, hr, h2⟩ => by
    obtain ⟨A, c, rfl⟩ := Kd.R_slice hr
    exact ⟨A, c, h1, ⟨(Kd.R_reads' hr).2.2⟩, h2⟩
theorem counterpanelaw02_works.p1 : seal_Put.f [97, 98] = some [97, 98, 54, 41, 162, 226] := by kernel_rfl
theorem counterpanelaw02_works.g1 : seal_Get.f [97, 98, 54, 41, 162, 226] = some ([97, 98], true) := by kernel_rfl
theorem counterpanelaw02_works.g2 : seal_Get.f [97, 98, 99] = some ([], false) := by kernel_rfl
theorem counterpanelaw02_works.g3 : seal_Get.f [1, 0, 0, 0, 0] = some ([], false) := by kernel_rfl
theorem counterpanelaw02_works.s1 : seal_Sum.f [49, 50, 51, 52, 53, 54, 55, 56, 57] = some 3808858755 := by kernel_rfl
theorem counterpanelaw02_works.s2 : seal_Sum.f [] = some 0 := by kernel_rfl
theorem counterpanelaw02_works.s3 : seal_Sum.f [49, 50, 51, 52, 53] = some 416359221 := by kernel_rfl
theorem counterpanelaw02_works.o1 : seal_Go.f 416359221 [54, 55, 56, 57] = some 3808858755 := by kernel_rfl
theorem counterpanelaw02_works.st : strOfNums [97, 98] = ⟨#[97, 98]⟩ := by kernel_rfl
set_option maxHeartbeats 1000000 in
set_option maxRecDepth 100000 in
theorem counterpanelaw02_works.calls (r : Bool) (w : World) (h : counterpanelaw02_works.f = some r) :
    Calls Try.prog 7 #[] w fun e w' => e = .returned (.bool r) ∧ Below w.heap.size w w' := by
  obtain rfl := Option.some.inj h
  clear h
  have kc := fun (w : World) (C : Array Value) (n c : Nat) => Lib.run_convert_bytes_const (P := Try.prog) w 22 5 C n c Try.underlying22 Try.underlying5
  go_enter Try.func7, Try.ntmps7
  go_wp2_with fail
  refine (counterpanelaw02_works.put_c [97, 98] _ counterpanelaw02_works.p1 _ _ _ _ 6 rfl rfl rfl (by decide)).mono ?_
  rintro e w1 ⟨A1, c1, rfl, hc1, hr1, hb1⟩
  replace hr1 := Aside0.mk hr1
  go_wp2_with fail
  refine (counterpanelaw02_works.get2_c [97, 98, 54, 41, 162, 226] _ _ counterpanelaw02_works.g1 _ _ _ 6 2 rfl rfl hr1 hc1).mono ?_
  rintro e w2 ⟨A2, c2, rfl, hr2, hb2⟩
  go_wp2_with fail
  refine (counterpanelaw02_works.get_c [97, 98, 99] _ _ counterpanelaw02_works.g2 _ _ _ _ rfl rfl (by decide)).mono ?_
  rintro e w3 ⟨v3, rfl, hb3⟩
  go_wp2_with fail
  refine (counterpanelaw02_works.get_c [1, 0, 0, 0, 0] _ _ counterpanelaw02_works.g3 _ _ _ _ rfl rfl (by decide)).mono ?_
  rintro e w4 ⟨v4, rfl, hb4⟩
  go_wp2_with fail
  refine (counterpanelaw02_works.sum_c [49, 50, 51, 52, 53, 54, 55, 56, 57] _ counterpanelaw02_works.s1 _ _ _ _ rfl rfl (by decide)).mono ?_
  rintro e w5 ⟨rfl, hb5⟩
  go_wp2_with fail
  refine (seal_Sum.calls none 0 [] 0 _ (Kd.C_nil _ _) (Nat.le_refl _) counterpanelaw02_works.s2).mono ?_
  rintro e w6 ⟨rfl, hb6⟩
  go_wp2_with fail
  refine (counterpanelaw02_works.sum_c [49, 50, 51, 52, 53] _ counterpanelaw02_works.s3 _ _ _ _ rfl rfl (by decide)).mono ?_
  rintro e w7 ⟨rfl, hb7⟩
  go_wp2_with fail
  refine (counterpanelaw02_works.go_c 416359221 [54, 55, 56, 57] _ counterpanelaw02_works.o1 _ _ _ _ rfl rfl (by decide)).mono ?_
  rintro e w8 ⟨rfl, hb8⟩
  have hd2 : Below w2.heap.size w2 w8 := hb3.trans (hb4.mono hb3.size |>.trans (hb5.mono (Nat.le_trans hb3.size hb4.size) |>.trans (hb6.mono (Nat.le_trans (Nat.le_trans hb3.size hb4.size) hb5.size) |>.trans (hb7.mono (Nat.le_trans (Nat.le_trans (Nat.le_trans hb3.size hb4.size) hb5.size) hb6.size) |>.trans (hb8.mono (Nat.le_trans (Nat.le_trans (Nat.le_trans (Nat.le_trans hb3.size hb4.size) hb5.size) hb6.size) hb7.size))))))
  have hr8 : Kd.C (Kd.int .u8) w8 A2 2 [97, 98] := Kd.C_below hr2.out hd2
  have hcs : ∀ c : Nat, (convert 22 9 (.slice A2 2 c)).run Try.prog w8 = .ok (.string ⟨#[97, 98]⟩) w8 := fun c => counterpanelaw02_works.st ▸ Kd.C_string Try.underlying22 Try.underlying5 Try.underlying9 hr8
  go_wp2_with fail
  go_ret
  have hd0 : Below w.heap.size w w8 := hb1.trans (hb2.mono hb1.size |>.trans (hd2.mono (Nat.le_trans hb1.size hb2.size)))
  exact ⟨rfl, hd0⟩

end Go.Proofs.Ytfdomnkiikklaaa.PAll
