/- The functions that the laws of this seat reach, as plain functions with proofs that the calls answer just so (written by a program of this session on the kit's print). -/
import Derived.Test.YtcemdkppkklfnaaPAllx0
import Derived.Test.YtcemdkppkklfnaaPAllx1
import Derived.Test.YtcemdkppkklfnaaPAllx2
import Derived.Test.YtcemdkppkklfnaaPAllx4
import Derived.Test.YtcemdkppkklfnaaPAllx5
import Derived.Test.YtcemdkppkklfnaaPAllx6
import Derived.Test.YtcemdkppkklfnaaPAllx7
import Derived.Test.YtcemdkppkklfnaaPAllx8
import Derived.Test.YtcemdkppkklfnaaPAllx14
namespace Go.Proofs.Ytcemdkppkklfnaa.PAll
open Go.RowKit Go.Proofs.YtcemdkppkklfnaaW.PrintWords Go.Proofs.YtcemdkppkklfnaaW.PrintLast Go.Proofs.YtcemdkppkklfnaaW.PrintMore
attribute [local go_sem] max2_int min2_int max_two min_two max_three min_three max_four min_four   -- for this text's walks alone
set_option linter.unusedVariables false
set_option linter.unusedSimpArgs false

attribute [local go_sem high] eqA24
/-! ### counterpanelaw04_RectWhole: function 4 -/
mutual
def counterpanelaw04_RectWhole.j0 : Nat → Bool → Int → Int → Int → Int → Int → Int → Int → Int → Int → Int → Int → Int → Option (Bool)
  | 0, _, _, _, _, _, _, _, _, _, _, _, _, _ => none
  | k + 1, x7, x173000, x173001, x173002, x173003, x174000, x174001, x174002, x174003, x175000, x175001, x175002, x175003 => (counterpaneref04_Has.f x173000 x173001 x173002 x173003 x173000 x173001).bind fun t185 => (if t185 = true then ((counterpaneref04_Has.f x173000 x173001 x173002 x173003 x173002 x173003).bind fun t186 => (if t186 = true then ((rect_Within.f x173000 x173001 x173002 x173003 x174000 x174001 x174002 x174003).bind fun t187 => (counterpanelaw04_RectWhole.j1 k (t187 != x7) x173000 x173001 x173002 x173003 x174000 x174001 x174002 x174003 x175000 x175001 x175002 x175003)) else (counterpanelaw04_RectWhole.j1 k true x173000 x173001 x173002 x173003 x174000 x174001 x174002 x174003 x175000 x175001 x175002 x175003))) else (counterpanelaw04_RectWhole.j1 k true x173000 x173001 x173002 x173003 x174000 x174001 x174002 x174003 x175000 x175001 x175002 x175003))
def counterpanelaw04_RectWhole.j1 : Nat → Bool → Int → Int → Int → Int → Int → Int → Int → Int → Int → Int → Int → Int → Option (Bool)
  | 0, _, _, _, _, _, _, _, _, _, _, _, _, _ => none
  | k + 1, x67, x173000, x173001, x173002, x173003, x174000, x174001, x174002, x174003, x175000, x175001, x175002, x175003 => if x67 = true then (none) else ((rect_Meet.f x173000 x173001 x173002 x173003 x174000 x174001 x174002 x174003).bind fun bt188 => ((rect_Meets.f x173000 x173001 x173002 x173003 x174000 x174001 x174002 x174003).bind fun t193 => ((rect_Empty.f x174000 x174001 x174002 x174003).bind fun t194 => (if t194 = true then (if (t193 != false) = true then (counterpanelaw04_RectWhole.j2 k true x173000 x173001 x173002 x173003 x174000 x174001 x174002 x174003 x175000 x175001 x175002 x175003) else ((rect_Meets.f x173000 x173001 x173002 x173003 x174000 x174001 x174002 x174003).bind fun t195 => ((rect_Meets.f x174000 x174001 x174002 x174003 x173000 x173001 x173002 x173003).bind fun t196 => (counterpanelaw04_RectWhole.j2 k (t195 != t196) x173000 x173001 x173002 x173003 x174000 x174001 x174002 x174003 x175000 x175001 x175002 x175003)))) else (if bt188.1 ≤ bt188.2.2.1 then (if (t193 != (decide (bt188.2.1 ≤ bt188.2.2.2))) = true then (counterpanelaw04_RectWhole.j2 k true x173000 x173001 x173002 x173003 x174000 x174001 x174002 x174003 x175000 x175001 x175002 x175003) else ((rect_Meets.f x173000 x173001 x173002 x173003 x174000 x174001 x174002 x174003).bind fun t197 => ((rect_Meets.f x174000 x174001 x174002 x174003 x173000 x173001 x173002 x173003).bind fun t198 => (counterpanelaw04_RectWhole.j2 k (t197 != t198) x173000 x173001 x173002 x173003 x174000 x174001 x174002 x174003 x175000 x175001 x175002 x175003)))) else (if (t193 != false) = true then (counterpanelaw04_RectWhole.j2 k true x173000 x173001 x173002 x173003 x174000 x174001 x174002 x174003 x175000 x175001 x175002 x175003) else ((rect_Meets.f x173000 x173001 x173002 x173003 x174000 x174001 x174002 x174003).bind fun t199 => ((rect_Meets.f x174000 x174001 x174002 x174003 x173000 x173001 x173002 x173003).bind fun t200 => (counterpanelaw04_RectWhole.j2 k (t199 != t200) x173000 x173001 x173002 x173003 x174000 x174001 x174002 x174003 x175000 x175001 x175002 x175003)))))))))
def counterpanelaw04_RectWhole.j2 : Nat → Bool → Int → Int → Int → Int → Int → Int → Int → Int → Int → Int → Int → Int → Option (Bool)
  | 0, _, _, _, _, _, _, _, _, _, _, _, _, _ => none
  | k + 1, x100, x173000, x173001, x173002, x173003, x174000, x174001, x174002, x174003, x175000, x175001, x175002, x175003 => if x100 = true then (none) else ((rect_Hull.f x173000 x173001 x173002 x173003 x174000 x174001 x174002 x174003).bind fun bt201 => ((rect_Within.f x173000 x173001 x173002 x173003 bt201.1 bt201.2.1 bt201.2.2.1 bt201.2.2.2).bind fun t206 => (if t206 = true then ((rect_Within.f x174000 x174001 x174002 x174003 bt201.1 bt201.2.1 bt201.2.2.1 bt201.2.2.2).bind fun t207 => (if t207 = true then ((rect_Within.f x173000 x173001 x173002 x173003 x175000 x175001 x175002 x175003).bind fun t208 => (if t208 = true then ((rect_Within.f x174000 x174001 x174002 x174003 x175000 x175001 x175002 x175003).bind fun t209 => (if t209 = true then ((rect_Within.f bt201.1 bt201.2.1 bt201.2.2.1 bt201.2.2.2 x175000 x175001 x175002 x175003).bind fun t210 => (if t210 = true then ((counterpanelaw04_works.f).bind fun t211 => (some t211)) else (none))) else ((counterpanelaw04_works.f).bind fun t212 => (some t212)))) else ((counterpanelaw04_works.f).bind fun t213 => (some t213)))) else (none))) else (none))))
end
def counterpanelaw04_RectWhole.f (k : Nat) (a0_0 : Int) (a0_1 : Int) (a0_2 : Int) (a0_3 : Int) (a1_0 : Int) (a1_1 : Int) (a1_2 : Int) (a1_3 : Int) (a2_0 : Int) (a2_1 : Int) (a2_2 : Int) (a2_3 : Int) : Option (Bool) := (rect_Empty.f a0_0 a0_1 a0_2 a0_3).bind fun t175 => (if t175 = true then ((rect_Meets.f a0_0 a0_1 a0_2 a0_3 a1_0 a1_1 a1_2 a1_3).bind fun t176 => (if t176 = true then (none) else ((rect_Within.f a0_0 a0_1 a0_2 a0_3 a1_0 a1_1 a1_2 a1_3).bind fun t177 => (if t177 = true then ((rect_Hull.f a0_0 a0_1 a0_2 a0_3 a1_0 a1_1 a1_2 a1_3).bind fun bt178 => (if (bt178.1 == a1_0 && (bt178.2.1 == a1_1 && (bt178.2.2.1 == a1_2 && (bt178.2.2.2 == a1_3)))) = true then ((counterpanelaw04_works.f).bind fun t182 => (some t182)) else (none))) else (none))))) else ((counterpaneref04_Has.f a1_0 a1_1 a1_2 a1_3 a0_0 a0_1).bind fun t183 => (if t183 = true then ((counterpaneref04_Has.f a1_0 a1_1 a1_2 a1_3 a0_2 a0_3).bind fun t184 => (counterpanelaw04_RectWhole.j0 k t184 a0_0 a0_1 a0_2 a0_3 a1_0 a1_1 a1_2 a1_3 a2_0 a2_1 a2_2 a2_3)) else (counterpanelaw04_RectWhole.j0 k false a0_0 a0_1 a0_2 a0_3 a1_0 a1_1 a1_2 a1_3 a2_0 a2_1 a2_2 a2_3))))
theorem counterpanelaw04_RectWhole.mono_l : ∀ k, (∀ y0 y1 y2 y3 y4 y5 y6 y7 y8 y9 y10 y11 y12, LeO (counterpanelaw04_RectWhole.j0 k y0 y1 y2 y3 y4 y5 y6 y7 y8 y9 y10 y11 y12) (counterpanelaw04_RectWhole.j0 (k + 1) y0 y1 y2 y3 y4 y5 y6 y7 y8 y9 y10 y11 y12)) ∧ (∀ y0 y1 y2 y3 y4 y5 y6 y7 y8 y9 y10 y11 y12, LeO (counterpanelaw04_RectWhole.j1 k y0 y1 y2 y3 y4 y5 y6 y7 y8 y9 y10 y11 y12) (counterpanelaw04_RectWhole.j1 (k + 1) y0 y1 y2 y3 y4 y5 y6 y7 y8 y9 y10 y11 y12)) ∧ (∀ y0 y1 y2 y3 y4 y5 y6 y7 y8 y9 y10 y11 y12, LeO (counterpanelaw04_RectWhole.j2 k y0 y1 y2 y3 y4 y5 y6 y7 y8 y9 y10 y11 y12) (counterpanelaw04_RectWhole.j2 (k + 1) y0 y1 y2 y3 y4 y5 y6 y7 y8 y9 y10 y11 y12))
  | 0 => ⟨fun _ _ _ _ _ _ _ _ _ _ _ _ _ r h => by simp [counterpanelaw04_RectWhole.j0] at h, fun _ _ _ _ _ _ _ _ _ _ _ _ _ r h => by simp [counterpanelaw04_RectWhole.j1] at h, fun _ _ _ _ _ _ _ _ _ _ _ _ _ r h => by simp [counterpanelaw04_RectWhole.j2] at h⟩
  | k + 1 => by
    obtain ⟨ih0, ih1, ih2⟩ := counterpanelaw04_RectWhole.mono_l k
    refine ⟨?_, ?_, ?_⟩
    · intro y0 y1 y2 y3 y4 y5 y6 y7 y8 y9 y10 y11 y12
      unfold counterpanelaw04_RectWhole.j0
      repeat' first
      | (with_reducible exact ih0 _ _ _ _ _ _ _ _ _ _ _ _ _)
      | (with_reducible exact ih1 _ _ _ _ _ _ _ _ _ _ _ _ _)
      | (with_reducible exact ih2 _ _ _ _ _ _ _ _ _ _ _ _ _)
      | (with_reducible exact LeO.refl _)
      | (with_reducible exact LeO.none _)
      | (with_reducible refine LeO.ite ?_ ?_)
      | (with_reducible refine LeO.bind ?_ (fun _ => ?_))
      | exact ih0 _ _ _ _ _ _ _ _ _ _ _ _ _
      | exact ih1 _ _ _ _ _ _ _ _ _ _ _ _ _
      | exact ih2 _ _ _ _ _ _ _ _ _ _ _ _ _
      | exact LeO.none _
      | refine LeO.ite ?_ ?_
      | refine LeO.bind ?_ (fun _ => ?_)
    · intro y0 y1 y2 y3 y4 y5 y6 y7 y8 y9 y10 y11 y12
      unfold counterpanelaw04_RectWhole.j1
      repeat' first
      | (with_reducible exact ih0 _ _ _ _ _ _ _ _ _ _ _ _ _)
      | (with_reducible exact ih1 _ _ _ _ _ _ _ _ _ _ _ _ _)
      | (with_reducible exact ih2 _ _ _ _ _ _ _ _ _ _ _ _ _)
      | (with_reducible exact LeO.refl _)
      | (with_reducible exact LeO.none _)
      | (with_reducible refine LeO.ite ?_ ?_)
      | (with_reducible refine LeO.bind ?_ (fun _ => ?_))
      | exact ih0 _ _ _ _ _ _ _ _ _ _ _ _ _
      | exact ih1 _ _ _ _ _ _ _ _ _ _ _ _ _
      | exact ih2 _ _ _ _ _ _ _ _ _ _ _ _ _
      | exact LeO.none _
      | refine LeO.ite ?_ ?_
      | refine LeO.bind ?_ (fun _ => ?_)
    · intro y0 y1 y2 y3 y4 y5 y6 y7 y8 y9 y10 y11 y12
      unfold counterpanelaw04_RectWhole.j2
      repeat' first
      | (with_reducible exact ih0 _ _ _ _ _ _ _ _ _ _ _ _ _)
      | (with_reducible exact ih1 _ _ _ _ _ _ _ _ _ _ _ _ _)
      | (with_reducible exact ih2 _ _ _ _ _ _ _ _ _ _ _ _ _)
      | (with_reducible exact LeO.refl _)
      | (with_reducible exact LeO.none _)
      | (with_reducible refine LeO.ite ?_ ?_)
      | (with_reducible refine LeO.bind ?_ (fun _ => ?_))
      | exact ih0 _ _ _ _ _ _ _ _ _ _ _ _ _
      | exact ih1 _ _ _ _ _ _ _ _ _ _ _ _ _
      | exact ih2 _ _ _ _ _ _ _ _ _ _ _ _ _
      | exact LeO.none _
      | refine LeO.ite ?_ ?_
      | refine LeO.bind ?_ (fun _ => ?_)
theorem counterpanelaw04_RectWhole.mono : ∀ a0 a1 a2 a3 a4 a5 a6 a7 a8 a9 a10 a11 k, LeO (counterpanelaw04_RectWhole.f k a0 a1 a2 a3 a4 a5 a6 a7 a8 a9 a10 a11) (counterpanelaw04_RectWhole.f (k + 1) a0 a1 a2 a3 a4 a5 a6 a7 a8 a9 a10 a11) := by
  intro a0 a1 a2 a3 a4 a5 a6 a7 a8 a9 a10 a11 k
  obtain ⟨ih0, ih1, ih2⟩ := counterpanelaw04_RectWhole.mono_l k
  unfold counterpanelaw04_RectWhole.f
  repeat' first
      | (with_reducible exact ih0 _ _ _ _ _ _ _ _ _ _ _ _ _)
      | (with_reducible exact ih1 _ _ _ _ _ _ _ _ _ _ _ _ _)
      | (with_reducible exact ih2 _ _ _ _ _ _ _ _ _ _ _ _ _)
      | (with_reducible exact LeO.refl _)
      | (with_reducible exact LeO.none _)
      | (with_reducible refine LeO.ite ?_ ?_)
      | (with_reducible refine LeO.bind ?_ (fun _ => ?_))
      | exact ih0 _ _ _ _ _ _ _ _ _ _ _ _ _
      | exact ih1 _ _ _ _ _ _ _ _ _ _ _ _ _
      | exact ih2 _ _ _ _ _ _ _ _ _ _ _ _ _
      | exact LeO.none _
      | refine LeO.ite ?_ ?_
      | refine LeO.bind ?_ (fun _ => ?_)
def counterpanelaw04_RectWhole.T2 : Bool × List (List Nat × List Nat) := (true, [([], []), ([], []), ([0, 1], [0, 1]), ([2], [2]), ([3, 2], [3]), ([4], [4]), ([4], [4]), ([5, 6, 4, 4], [4, 5, 6]), ([4, 7], [4, 7]), ([8, 7], [8]), ([9], [9]), ([9], [9]), ([10, 11, 9, 9], [9, 10, 11]), ([9], [9]), ([12, 13, 9], [9, 12, 13]), ([9, 14], [9, 14]), ([15, 12], [15]), ([16, 16], [16]), ([16, 17], [16, 17]), ([18, 17, 0, 1, 2, 3, 4, 5, 6, 7, 8, 9, 10, 11, 12, 13, 14, 15, 16, 17, 18], [18])])
def counterpanelaw04_RectWhole.B2 : List Nat := [0, 0, 3, 7, 15, 31, 31, 127, 255, 511, 1023, 1023, 4095, 1023, 16383, 32767, 65535, 131071, 262143, 524287]
theorem counterpanelaw04_RectWhole.tab2 : rtab .any (opsOf Try.f4 2) = counterpanelaw04_RectWhole.T2 := by kernel_rfl
theorem counterpanelaw04_RectWhole.bits2 : waitsOk counterpanelaw04_RectWhole.T2.2 counterpanelaw04_RectWhole.B2 = true := by kernel_rfl
def counterpanelaw04_RectWhole.T7 : Bool × List (List Nat × List Nat) := (true, [([], []), ([], []), ([0, 1], [0, 1]), ([], []), ([3, 2], [3]), ([4], [4]), ([5, 4], [5]), ([6], [6]), ([7, 6], [6, 7]), ([6], [6]), ([9, 6], [6, 9]), ([8, 10, 6], [6, 8, 10]), ([6, 11], [6, 11]), ([12, 6], [12]), ([13], [13]), ([14, 13], [13, 14]), ([13], [13]), ([16, 13], [13, 16]), ([15, 17, 13], [13, 15, 17]), ([13, 18], [13, 18]), ([2, 19], [2, 19]), ([20, 13], [20]), ([21], [21]), ([21], [21]), ([22, 23, 21, 21], [21, 22, 23]), ([21], [21]), ([21], [21]), ([25, 26, 24, 21], [21, 25, 26]), ([24, 27, 21], [21, 24, 27]), ([21, 28], [21, 28])])
def counterpanelaw04_RectWhole.B7 : List Nat := [0, 0, 3, 0, 15, 31, 63, 127, 255, 127, 639, 2047, 4095, 8191, 16383, 32767, 16383, 81919, 262143, 524287, 1048575, 2097151, 4194303, 4194303, 16777215, 4194303, 4194303, 134217727, 268435455, 536870911]
theorem counterpanelaw04_RectWhole.tab7 : rtab .any (opsOf Try.f4 7) = counterpanelaw04_RectWhole.T7 := by kernel_rfl
theorem counterpanelaw04_RectWhole.bits7 : waitsOk counterpanelaw04_RectWhole.T7.2 counterpanelaw04_RectWhole.B7 = true := by kernel_rfl
abbrev T_ : Bool := true
abbrev F_ : Bool := false
theorem put_ : (∀ (a : Act) (d : Tmp) (v : Value), a.put (some d) v = { a with tmps := a.tmps.setIfInBounds d v }) ∧ (∀ (a : Act) (v : Value), a.put none v = a) ∧ (∀ (l : List Value) (i : Nat) (v : Value), l.toArray.setIfInBounds i v = (l.set i v).toArray) ∧
    (∀ (x v : Value) (l : List Value), (x :: l).set 0 v = v :: l) ∧ (∀ (x v : Value) (l : List Value) (i : Nat), (x :: l).set (i + 1) v = x :: l.set i v) ∧ (∀ n : Int, IntKind.i64.wrap n = Go.RowKit.wrap64 n) ∧ (∀ n : Int, IntKind.i32.wrap n = Go.RowKit.wrap32 n) :=
  ⟨fun _ _ _ => rfl, fun _ _ => rfl, fun _ _ _ => by simp, fun _ _ _ => rfl, fun _ _ _ _ => rfl, i64_w, i32_w⟩
set_option maxHeartbeats 8000000 in
set_option maxRecDepth 100000 in
theorem counterpanelaw04_RectWhole.calls (k : Nat) (a0_0 : Int) (a0_1 : Int) (a0_2 : Int) (a0_3 : Int) (a1_0 : Int) (a1_1 : Int) (a1_2 : Int) (a1_3 : Int) (a2_0 : Int) (a2_1 : Int) (a2_2 : Int) (a2_3 : Int) (r : Bool) (w : World) (h : counterpanelaw04_RectWhole.f k a0_0 a0_1 a0_2 a0_3 a1_0 a1_1 a1_2 a1_3 a2_0 a2_1 a2_2 a2_3 = some r) :
  Calls Try.prog 4 #[.agg #[.int .u32 a0_0, .int .u32 a0_1, .int .u32 a0_2, .int .u32 a0_3], .agg #[.int .u32 a1_0, .int .u32 a1_1, .int .u32 a1_2, .int .u32 a1_3], .agg #[.int .u32 a2_0, .int .u32 a2_1, .int .u32 a2_2, .int .u32 a2_3]] w fun e w' => e = .returned (.bool r) ∧ Below w.heap.size w w' := by
 have hu24 := Try.underlying24
 have HB := Aside0.mk (Below.refl w.heap.size w)
 have H : ((rect_Empty.f a0_0 a0_1 a0_2 a0_3).bind fun t175 => (if t175 = true then ((rect_Meets.f a0_0 a0_1 a0_2 a0_3 a1_0 a1_1 a1_2 a1_3).bind fun t176 => (if t176 = true then (none) else ((rect_Within.f a0_0 a0_1 a0_2 a0_3 a1_0 a1_1 a1_2 a1_3).bind fun t177 => (if t177 = true then ((rect_Hull.f a0_0 a0_1 a0_2 a0_3 a1_0 a1_1 a1_2 a1_3).bind fun bt178 => (if (bt178.1 == a1_0 && (bt178.2.1 == a1_1 && (bt178.2.2.1 == a1_2 && (bt178.2.2.2 == a1_3)))) = true then ((counterpanelaw04_works.f).bind fun t182 => (some t182)) else (none))) else (none))))) else ((counterpaneref04_Has.f a1_0 a1_1 a1_2 a1_3 a0_0 a0_1).bind fun t183 => (if t183 = true then ((counterpaneref04_Has.f a1_0 a1_1 a1_2 a1_3 a0_2 a0_3).bind fun t184 => (counterpanelaw04_RectWhole.j0 k t184 a0_0 a0_1 a0_2 a0_3 a1_0 a1_1 a1_2 a1_3 a2_0 a2_1 a2_2 a2_3)) else (counterpanelaw04_RectWhole.j0 k false a0_0 a0_1 a0_2 a0_3 a1_0 a1_1 a1_2 a1_3 a2_0 a2_1 a2_2 a2_3))))) = some r := h
 clear h
 replace H := Option.bind_eq_some_iff.mp H
 obtain ⟨t175, A40, H⟩ := H
 replace H : (if t175 = true then ((rect_Meets.f a0_0 a0_1 a0_2 a0_3 a1_0 a1_1 a1_2 a1_3).bind fun t176 => (if t176 = true then (none) else ((rect_Within.f a0_0 a0_1 a0_2 a0_3 a1_0 a1_1 a1_2 a1_3).bind fun t177 => (if t177 = true then ((rect_Hull.f a0_0 a0_1 a0_2 a0_3 a1_0 a1_1 a1_2 a1_3).bind fun bt178 => (if (bt178.1 == a1_0 && (bt178.2.1 == a1_1 && (bt178.2.2.1 == a1_2 && (bt178.2.2.2 == a1_3)))) = true then ((counterpanelaw04_works.f).bind fun t182 => (some t182)) else (none))) else (none))))) else ((counterpaneref04_Has.f a1_0 a1_1 a1_2 a1_3 a0_0 a0_1).bind fun t183 => (if t183 = true then ((counterpaneref04_Has.f a1_0 a1_1 a1_2 a1_3 a0_2 a0_3).bind fun t184 => (counterpanelaw04_RectWhole.j0 k t184 a0_0 a0_1 a0_2 a0_3 a1_0 a1_1 a1_2 a1_3 a2_0 a2_1 a2_2 a2_3)) else (counterpanelaw04_RectWhole.j0 k false a0_0 a0_1 a0_2 a0_3 a1_0 a1_1 a1_2 a1_3 a2_0 a2_1 a2_2 a2_3)))) = some r := H
 have A4 := Aside0.mk A40
 clear A40
 by_cases c5 : t175 = true
 ·subst c5
  have H1 : ((rect_Meets.f a0_0 a0_1 a0_2 a0_3 a1_0 a1_1 a1_2 a1_3).bind fun t176 => (if t176 = true then (none) else ((rect_Within.f a0_0 a0_1 a0_2 a0_3 a1_0 a1_1 a1_2 a1_3).bind fun t177 => (if t177 = true then ((rect_Hull.f a0_0 a0_1 a0_2 a0_3 a1_0 a1_1 a1_2 a1_3).bind fun bt178 => (if (bt178.1 == a1_0 && (bt178.2.1 == a1_1 && (bt178.2.2.1 == a1_2 && (bt178.2.2.2 == a1_3)))) = true then ((counterpanelaw04_works.f).bind fun t182 => (some t182)) else (none))) else (none))))) = some r := by rw [if_pos rfl] at H; exact H
  clear H
  have H := H1
  clear H1
  replace H := Option.bind_eq_some_iff.mp H
  obtain ⟨t176, A60, H⟩ := H
  replace H : (if t176 = true then (none) else ((rect_Within.f a0_0 a0_1 a0_2 a0_3 a1_0 a1_1 a1_2 a1_3).bind fun t177 => (if t177 = true then ((rect_Hull.f a0_0 a0_1 a0_2 a0_3 a1_0 a1_1 a1_2 a1_3).bind fun bt178 => (if (bt178.1 == a1_0 && (bt178.2.1 == a1_1 && (bt178.2.2.1 == a1_2 && (bt178.2.2.2 == a1_3)))) = true then ((counterpanelaw04_works.f).bind fun t182 => (some t182)) else (none))) else (none)))) = some r := H
  have A6 := Aside0.mk A60
  clear A60
  by_cases c7 : t176 = true
  ·subst c7
   have H1 : (none) = some r := by rw [if_pos rfl] at H; exact H
   clear H
   have H := H1
   clear H1
   exact absurd H (by simp)
  ·replace c7 := Bool.eq_false_iff.mpr c7
   subst c7
   have H1 : ((rect_Within.f a0_0 a0_1 a0_2 a0_3 a1_0 a1_1 a1_2 a1_3).bind fun t177 => (if t177 = true then ((rect_Hull.f a0_0 a0_1 a0_2 a0_3 a1_0 a1_1 a1_2 a1_3).bind fun bt178 => (if (bt178.1 == a1_0 && (bt178.2.1 == a1_1 && (bt178.2.2.1 == a1_2 && (bt178.2.2.2 == a1_3)))) = true then ((counterpanelaw04_works.f).bind fun t182 => (some t182)) else (none))) else (none))) = some r := by rw [if_neg (show ¬ (false = true) by decide)] at H; exact H
   clear H
   have H := H1
   clear H1
   replace H := Option.bind_eq_some_iff.mp H
   obtain ⟨t177, A80, H⟩ := H
   replace H : (if t177 = true then ((rect_Hull.f a0_0 a0_1 a0_2 a0_3 a1_0 a1_1 a1_2 a1_3).bind fun bt178 => (if (bt178.1 == a1_0 && (bt178.2.1 == a1_1 && (bt178.2.2.1 == a1_2 && (bt178.2.2.2 == a1_3)))) = true then ((counterpanelaw04_works.f).bind fun t182 => (some t182)) else (none))) else (none)) = some r := H
   have A8 := Aside0.mk A80
   clear A80
   by_cases c9 : t177 = true
   ·subst c9
    have H1 : ((rect_Hull.f a0_0 a0_1 a0_2 a0_3 a1_0 a1_1 a1_2 a1_3).bind fun bt178 => (if (bt178.1 == a1_0 && (bt178.2.1 == a1_1 && (bt178.2.2.1 == a1_2 && (bt178.2.2.2 == a1_3)))) = true then ((counterpanelaw04_works.f).bind fun t182 => (some t182)) else (none))) = some r := by rw [if_pos rfl] at H; exact H
    clear H
    have H := H1
    clear H1
    replace H := Option.bind_eq_some_iff.mp H
    obtain ⟨⟨t178, t179, t180, t181⟩, A100, H⟩ := H
    replace H : (if (t178 == a1_0 && (t179 == a1_1 && (t180 == a1_2 && (t181 == a1_3)))) = true then ((counterpanelaw04_works.f).bind fun t182 => (some t182)) else (none)) = some r := H
    have A10 := Aside0.mk A100
    clear A100
    by_cases c11 : (t178 == a1_0 && (t179 == a1_1 && (t180 == a1_2 && (t181 == a1_3)))) = true
    ·rw [if_pos c11] at H
     have c11b0 : (t178 == a1_0 && (t179 == a1_1 && (t180 == a1_2 && (t181 == a1_3)))) = true := c11
     (try (have c11b1 : decide (t178 = a1_0 && (t179 == a1_1 && (t180 == a1_2 && (t181 == a1_3)))) = true := by simpa using c11))
     (try (have c11b2 : (t178 == a1_0 && (t179 == a1_1 && (t180 == a1_2 && (t181 == a1_3)))) = true := by simpa using c11))
     clear c11
     replace H := Option.bind_eq_some_iff.mp H
     obtain ⟨t182, A120, H⟩ := H
     replace H : (some t182) = some r := H
     have A12 := Aside0.mk A120
     clear A120
     obtain rfl := Option.some.inj H
     go_enter Try.func4, Try.ntmps4
     try go_wp2_with (first | ((with_reducible refine gate_dst (N := 3) rfl ?_); refine box_event ?hg (N := 3) ?hd (cs := #[.int .u32 a0_0, .int .u32 a0_1, .int .u32 a0_2, .int .u32 a0_3]) (t := 24) ?hr ?_; (case hd => rfl); (case hg => rfl); (case hr => first | (go_simp; done) | (go_simp; rfl)); intro gb172 hg w13 hbox hb; have n0_ := Aside0.mk (below_step (by repeat (first | (with_reducible first | exact HB.out | apply below_alloc | apply pw_below_drewN | apply below_drew1) | exact HB.out)) hb); have n1_ := Aside0.mk (hbox); have n2_ := Aside0.mk ((by rw [hg]; exact (below_size (by repeat (first | (with_reducible first | exact HB.out | apply below_alloc | apply pw_below_drewN | apply below_drew1) | exact HB.out))) : w.heap.size ≤ gb172)); have n3_ := Aside0.mk ((by rw [hg]; exact (below_size (by repeat (first | (with_reducible first | exact HB.out | apply below_alloc | apply pw_below_drewN | apply below_drew1) | exact HB.out))) : w.heap.size ≤ gb172)); clear HB; have HB := n0_; have BK172 := n1_; have GW172 := n2_; have GE172 := n3_; clear n0_ n1_ n2_ n3_; clear hb hbox hg) | ((with_reducible refine gate_dst (N := 4) rfl ?_); refine box_event ?hg (N := 4) ?hd (cs := #[.int .u32 a1_0, .int .u32 a1_1, .int .u32 a1_2, .int .u32 a1_3]) (t := 24) ?hr ?_; (case hd => rfl); (case hg => rfl); (case hr => first | (go_simp; done) | (go_simp; rfl)); intro gb173 hg w14 hbox hb; have n0_ := Aside0.mk (blk_below BK172.out hb); have n1_ := Aside0.mk (below_step (by repeat (first | (with_reducible first | exact HB.out | apply below_alloc | apply pw_below_drewN | apply below_drew1 | refine below_set ?_ GE172.out) | exact HB.out)) hb); have n2_ := Aside0.mk (hbox); have n3_ := Aside0.mk ((by rw [hg]; exact (below_size (by repeat (first | (with_reducible first | exact HB.out | apply below_alloc | apply pw_below_drewN | apply below_drew1 | refine below_set ?_ GE172.out) | exact HB.out))) : w.heap.size ≤ gb173)); have n4_ := Aside0.mk ((by rw [hg]; exact (below_size (by repeat (first | (with_reducible first | exact HB.out | apply below_alloc | apply pw_below_drewN | apply below_drew1 | refine below_set ?_ GE172.out) | exact HB.out))) : w.heap.size ≤ gb173)); have n5_ := Aside0.mk ((by rw [hg]; exact Nat.ne_of_lt (blk_lt BK172.out) : gb172 ≠ gb173)); have n6_ := Aside0.mk ((by rw [hg]; exact Nat.ne_of_gt (blk_lt BK172.out) : gb173 ≠ gb172)); clear BK172; clear HB; have BK172 := n0_; have HB := n1_; have BK173 := n2_; have GW173 := n3_; have GE173 := n4_; have NB172_173 := n5_; have NB173_172 := n6_; clear n0_ n1_ n2_ n3_ n4_ n5_ n6_; clear hb hbox hg) | ((with_reducible refine gate_dst (N := 5) rfl ?_); refine box_event ?hg (N := 5) ?hd (cs := #[.int .u32 a2_0, .int .u32 a2_1, .int .u32 a2_2, .int .u32 a2_3]) (t := 24) ?hr ?_; (case hd => rfl); (case hg => rfl); (case hr => first | (go_simp; done) | (go_simp; rfl)); intro gb174 hg w15 hbox hb; have n0_ := Aside0.mk (blk_below BK172.out hb); have n1_ := Aside0.mk (blk_below BK173.out hb); have n2_ := Aside0.mk (below_step (by repeat (first | (with_reducible first | exact HB.out | apply below_alloc | apply pw_below_drewN | apply below_drew1 | refine below_set ?_ GE172.out | refine below_set ?_ GE173.out) | exact HB.out)) hb); have n3_ := Aside0.mk (hbox); have n4_ := Aside0.mk ((by rw [hg]; exact (below_size (by repeat (first | (with_reducible first | exact HB.out | apply below_alloc | apply pw_below_drewN | apply below_drew1 | refine below_set ?_ GE172.out | refine below_set ?_ GE173.out) | exact HB.out))) : w.heap.size ≤ gb174)); have n5_ := Aside0.mk ((by rw [hg]; exact (below_size (by repeat (first | (with_reducible first | exact HB.out | apply below_alloc | apply pw_below_drewN | apply below_drew1 | refine below_set ?_ GE172.out | refine below_set ?_ GE173.out) | exact HB.out))) : w.heap.size ≤ gb174)); have n6_ := Aside0.mk ((by rw [hg]; exact Nat.ne_of_lt (blk_lt BK172.out) : gb172 ≠ gb174)); have n7_ := Aside0.mk ((by rw [hg]; exact Nat.ne_of_gt (blk_lt BK172.out) : gb174 ≠ gb172)); have n8_ := Aside0.mk ((by rw [hg]; exact Nat.ne_of_lt (blk_lt BK173.out) : gb173 ≠ gb174)); have n9_ := Aside0.mk ((by rw [hg]; exact Nat.ne_of_gt (blk_lt BK173.out) : gb174 ≠ gb173)); clear BK172; clear BK173; clear HB; have BK172 := n0_; have BK173 := n1_; have HB := n2_; have BK174 := n3_; have GW174 := n4_; have GE174 := n5_; have NB172_174 := n6_; have NB174_172 := n7_; have NB173_174 := n8_; have NB174_173 := n9_; clear n0_ n1_ n2_ n3_ n4_ n5_ n6_ n7_ n8_ n9_; clear hb hbox hg; have hnb16 := NB172_173.out; have hnc16 := NB173_172.out; have hnb17 := NB172_174.out; have hnc17 := NB174_172.out; have hcz18_0 : w15.cell? ⟨gb172, 0, none⟩ = some (.int .u32 a0_0) := (blk_cell BK172.out 0).trans rfl; have hcz18_1 : w15.cell? ⟨gb172, 1, none⟩ = some (.int .u32 a0_1) := (blk_cell BK172.out 1).trans rfl; have hcz18_2 : w15.cell? ⟨gb172, 2, none⟩ = some (.int .u32 a0_2) := (blk_cell BK172.out 2).trans rfl; have hcz18_3 : w15.cell? ⟨gb172, 3, none⟩ = some (.int .u32 a0_3) := (blk_cell BK172.out 3).trans rfl; have hfz18_0 := blk_frozen BK172.out 0; have hfz18_1 := blk_frozen BK172.out 1; have hfz18_2 := blk_frozen BK172.out 2; have hfz18_3 := blk_frozen BK172.out 3) | ((with_reducible refine gate_callee (f := 10) rfl ?_); refine goesL_ (some 11) rfl rfl Try.func10 (by kernel_rfl) rfl #[.agg #[.int .u32 a0_0, .int .u32 a0_1, .int .u32 a0_2, .int .u32 a0_3]] rfl (by (try simp only [List.map_toArray, List.map_cons, List.map_nil]); first | done | rfl | (simp only [List.length_drop, List.length_take]; rfl) | (simp; done)) ?_; (with_reducible refine (rect_Empty.calls a0_0 a0_1 a0_2 a0_3 true _ A4.out).mono ?_); rintro e w19 ⟨rfl, hb⟩; refine ⟨_, rfl, ?_⟩; replace BK172 := Aside0.mk (blk_below BK172.out hb); replace BK173 := Aside0.mk (blk_below BK173.out hb); replace BK174 := Aside0.mk (blk_below BK174.out hb); replace HB := Aside0.mk (below_step (by repeat (first | (with_reducible first | exact HB.out | apply below_alloc | apply pw_below_drewN | apply below_drew1 | refine below_set ?_ GE172.out | refine below_set ?_ GE173.out | refine below_set ?_ GE174.out) | exact HB.out)) hb); (try clear hb); (try clear hb2); (try clear hk); (try clear hi)))
     have n0_ := Aside0.mk (blk_drew BK172.out)
     have n1_ := Aside0.mk (blk_drew BK173.out)
     have n2_ := Aside0.mk (blk_drew BK174.out)
     have n3_ := Aside0.mk (below_drew1 HB.out)
     clear BK172
     clear BK173
     clear BK174
     clear HB
     have BK172 := n0_
     have BK173 := n1_
     have BK174 := n2_
     have HB := n3_
     clear n0_ n1_ n2_ n3_
     refine start_ (n := 20) (S := fun w' => w'.cell? ⟨gb172, 0, none⟩ = some (.int .u32 a0_0) ∧ w'.cell? ⟨gb172, 1, none⟩ = some (.int .u32 a0_1) ∧ w'.cell? ⟨gb172, 2, none⟩ = some (.int .u32 a0_2) ∧ w'.cell? ⟨gb172, 3, none⟩ = some (.int .u32 a0_3) ∧ w'.cell? ⟨gb173, 0, none⟩ = some (.int .u32 a1_0) ∧ w'.cell? ⟨gb173, 1, none⟩ = some (.int .u32 a1_1) ∧ w'.cell? ⟨gb173, 2, none⟩ = some (.int .u32 a1_2) ∧ w'.cell? ⟨gb173, 3, none⟩ = some (.int .u32 a1_3)) (ds := []) #[F_,F_,F_,F_,F_,F_,F_,F_,F_,F_,F_,F_,F_,F_,F_,F_,F_,F_,F_,F_] (by kernel_rfl) rfl rfl ⟨(blk_cell BK172.out 0).trans rfl, (blk_cell BK172.out 1).trans rfl, (blk_cell BK172.out 2).trans rfl, (blk_cell BK172.out 3).trans rfl, (blk_cell BK173.out 0).trans rfl, (blk_cell BK173.out 1).trans rfl, (blk_cell BK173.out 2).trans rfl, (blk_cell BK173.out 3).trans rfl⟩ (fun hHeld => ?_); refine with_tabW counterpanelaw04_RectWhole.tab2 counterpanelaw04_RectWhole.bits2 (fun HT_ HW_ => ?_)
     generalize w19.drew = w20 at BK172 BK173 BK174 HB hHeld ⊢
     refine take_ (i := 0) (N := some 12) (v := ?_) (a' := ?_) #[T_,F_,F_,F_,F_,F_,F_,F_,F_,F_,F_,F_,F_,F_,F_,F_,F_,F_,F_,F_] rfl rfl (take_ofW HT_.out HW_.out (by kernel_rfl)) (fun _ _ _ h => h) (Or.inl ⟨by rfl, ?_⟩) hHeld ?_ ?_
     rotate_left; (rintro w' ⟨s0, s1, s2, s3, s4, s5, s6, s7⟩; go_simp; with_reducible rfl); rotate_left; (simp only [put_]; rfl)
     refine take_ (i := 1) (N := some 13) (v := ?_) (a' := ?_) #[T_,T_,F_,F_,F_,F_,F_,F_,F_,F_,F_,F_,F_,F_,F_,F_,F_,F_,F_,F_] rfl rfl (take_ofW HT_.out HW_.out (by kernel_rfl)) (fun _ _ _ h => h) (Or.inl ⟨by rfl, ?_⟩) hHeld ?_ ?_
     rotate_left; (rintro w' ⟨s0, s1, s2, s3, s4, s5, s6, s7⟩; go_simp; with_reducible rfl); rotate_left; (simp only [put_]; rfl)
     refine one_ (i := 2) (N := some 14) #[T_,T_,T_,F_,F_,F_,F_,F_,F_,F_,F_,F_,F_,F_,F_,F_,F_,F_,F_,F_] rfl rfl (one_of HT_.out (by kernel_rfl)) (by decide) (fun K hK => ?_)
     refine goes_ Try.func11 (by kernel_rfl) rfl #[.agg #[.int .u32 a0_0, .int .u32 a0_1, .int .u32 a0_2, .int .u32 a0_3], .agg #[.int .u32 a1_0, .int .u32 a1_1, .int .u32 a1_2, .int .u32 a1_3]] (by rfl) rfl rfl (by (try simp only [List.map_toArray, List.map_cons, List.map_nil]); first | done | rfl | (simp only [List.length_drop, List.length_take]; rfl) | (simp; done)) ?_
     with_reducible refine (rect_Meets.calls a0_0 a0_1 a0_2 a0_3 a1_0 a1_1 a1_2 a1_3 false _ A6.out).mono ?_
     rintro e w21 ⟨rfl, hb⟩
     refine ⟨_, rfl, ?_⟩
     replace BK172 := Aside0.mk (blk_below BK172.out hb)
     replace BK173 := Aside0.mk (blk_below BK173.out hb)
     replace BK174 := Aside0.mk (blk_below BK174.out hb)
     replace HB := Aside0.mk (below_step (by repeat (first | (with_reducible first | exact HB.out | apply below_alloc | apply pw_below_drewN | apply below_drew1 | refine below_set ?_ GE172.out | refine below_set ?_ GE173.out | refine below_set ?_ GE174.out) | exact HB.out)) hb)
     refine hK.out _ _ ⟨(blk_cell BK172.out 0).trans rfl, (blk_cell BK172.out 1).trans rfl, (blk_cell BK172.out 2).trans rfl, (blk_cell BK172.out 3).trans rfl, (blk_cell BK173.out 0).trans rfl, (blk_cell BK173.out 1).trans rfl, (blk_cell BK173.out 2).trans rfl, (blk_cell BK173.out 3).trans rfl⟩ (fun hHeld => ?_)
     clear hK K
     refine norm_ (a' := ?_) ?_ ?_
     rotate_left
     ·show Act.put _ (some 14) _ = _
      simp only [put_]
      rfl
     refine pure_ (i := 3) (N := some 15) (v := ?_) (a' := ?_) #[T_,T_,T_,T_,F_,F_,F_,F_,F_,F_,F_,F_,F_,F_,F_,F_,F_,F_,F_,F_] rfl rfl (any_of HT_.out (by kernel_rfl)) (fun _ _ _ h => h) (Or.inl ⟨by rfl, ?_⟩) ?_ ?_
     rotate_left; (intro w'; go_simp; with_reducible rfl); rotate_left; (simp only [put_]; rfl)
     refine pure_ (i := 4) (N := some 16) (v := ?_) (a' := ?_) #[T_,T_,T_,T_,T_,F_,F_,F_,F_,F_,F_,F_,F_,F_,F_,F_,F_,F_,F_,F_] rfl rfl (any_of HT_.out (by kernel_rfl)) (fun _ _ _ h => h) (Or.inl ⟨by rfl, ?_⟩) ?_ ?_
     rotate_left; (intro w'; go_simp; with_reducible rfl); rotate_left; (simp only [put_]; rfl)
     refine take_ (i := 5) (N := some 17) (v := ?_) (a' := ?_) #[T_,T_,T_,T_,T_,T_,F_,F_,F_,F_,F_,F_,F_,F_,F_,F_,F_,F_,F_,F_] rfl rfl (take_ofW HT_.out HW_.out (by kernel_rfl)) (fun _ _ _ h => h) (Or.inl ⟨by rfl, ?_⟩) hHeld ?_ ?_
     rotate_left; (rintro w' ⟨s0, s1, s2, s3, s4, s5, s6, s7⟩; go_simp; with_reducible rfl); rotate_left; (simp only [put_]; rfl)
     refine take_ (i := 6) (N := some 18) (v := ?_) (a' := ?_) #[T_,T_,T_,T_,T_,T_,T_,F_,F_,F_,F_,F_,F_,F_,F_,F_,F_,F_,F_,F_] rfl rfl (take_ofW HT_.out HW_.out (by kernel_rfl)) (fun _ _ _ h => h) (Or.inl ⟨by rfl, ?_⟩) hHeld ?_ ?_
     rotate_left; (rintro w' ⟨s0, s1, s2, s3, s4, s5, s6, s7⟩; go_simp; with_reducible rfl); rotate_left; (simp only [put_]; rfl)
     refine one_ (i := 7) (N := some 19) #[T_,T_,T_,T_,T_,T_,T_,T_,F_,F_,F_,F_,F_,F_,F_,F_,F_,F_,F_,F_] rfl rfl (one_of HT_.out (by kernel_rfl)) (by decide) (fun K hK => ?_)
     refine goes_ Try.func12 (by kernel_rfl) rfl #[.agg #[.int .u32 a0_0, .int .u32 a0_1, .int .u32 a0_2, .int .u32 a0_3], .agg #[.int .u32 a1_0, .int .u32 a1_1, .int .u32 a1_2, .int .u32 a1_3]] (by rfl) rfl rfl (by (try simp only [List.map_toArray, List.map_cons, List.map_nil]); first | done | rfl | (simp only [List.length_drop, List.length_take]; rfl) | (simp; done)) ?_
     with_reducible refine (rect_Within.calls a0_0 a0_1 a0_2 a0_3 a1_0 a1_1 a1_2 a1_3 true _ A8.out).mono ?_
     rintro e w22 ⟨rfl, hb⟩
     refine ⟨_, rfl, ?_⟩
     replace BK172 := Aside0.mk (blk_below BK172.out hb)
     replace BK173 := Aside0.mk (blk_below BK173.out hb)
     replace BK174 := Aside0.mk (blk_below BK174.out hb)
     replace HB := Aside0.mk (below_step (by repeat (first | (with_reducible first | exact HB.out | apply below_alloc | apply pw_below_drewN | apply below_drew1 | refine below_set ?_ GE172.out | refine below_set ?_ GE173.out | refine below_set ?_ GE174.out) | exact HB.out)) hb)
     refine hK.out _ _ ⟨(blk_cell BK172.out 0).trans rfl, (blk_cell BK172.out 1).trans rfl, (blk_cell BK172.out 2).trans rfl, (blk_cell BK172.out 3).trans rfl, (blk_cell BK173.out 0).trans rfl, (blk_cell BK173.out 1).trans rfl, (blk_cell BK173.out 2).trans rfl, (blk_cell BK173.out 3).trans rfl⟩ (fun hHeld => ?_)
     clear hK K
     refine norm_ (a' := ?_) ?_ ?_
     rotate_left
     ·show Act.put _ (some 19) _ = _
      simp only [put_]
      rfl
     refine pure_ (i := 8) (N := some 20) (v := ?_) (a' := ?_) #[T_,T_,T_,T_,T_,T_,T_,T_,T_,F_,F_,F_,F_,F_,F_,F_,F_,F_,F_,F_] rfl rfl (any_of HT_.out (by kernel_rfl)) (fun _ _ _ h => h) (Or.inl ⟨by rfl, ?_⟩) ?_ ?_
     rotate_left; (intro w'; go_simp; with_reducible rfl); rotate_left; (simp only [put_]; rfl)
     refine pure_ (i := 9) (N := some 21) (v := ?_) (a' := ?_) #[T_,T_,T_,T_,T_,T_,T_,T_,T_,T_,F_,F_,F_,F_,F_,F_,F_,F_,F_,F_] rfl rfl (any_of HT_.out (by kernel_rfl)) (fun _ _ _ h => h) (Or.inl ⟨by rfl, ?_⟩) ?_ ?_
     rotate_left; (intro w'; go_simp; with_reducible rfl); rotate_left; (simp only [put_]; rfl)
     refine take_ (i := 10) (N := some 22) (v := ?_) (a' := ?_) #[T_,T_,T_,T_,T_,T_,T_,T_,T_,T_,T_,F_,F_,F_,F_,F_,F_,F_,F_,F_] rfl rfl (take_ofW HT_.out HW_.out (by kernel_rfl)) (fun _ _ _ h => h) (Or.inl ⟨by rfl, ?_⟩) hHeld ?_ ?_
     rotate_left; (rintro w' ⟨s0, s1, s2, s3, s4, s5, s6, s7⟩; go_simp; with_reducible rfl); rotate_left; (simp only [put_]; rfl)
     refine take_ (i := 11) (N := some 23) (v := ?_) (a' := ?_) #[T_,T_,T_,T_,T_,T_,T_,T_,T_,T_,T_,T_,F_,F_,F_,F_,F_,F_,F_,F_] rfl rfl (take_ofW HT_.out HW_.out (by kernel_rfl)) (fun _ _ _ h => h) (Or.inl ⟨by rfl, ?_⟩) hHeld ?_ ?_
     rotate_left; (rintro w' ⟨s0, s1, s2, s3, s4, s5, s6, s7⟩; go_simp; with_reducible rfl); rotate_left; (simp only [put_]; rfl)
     refine take_ (i := 13) (N := some 25) (v := ?_) (a' := ?_) #[T_,T_,T_,T_,T_,T_,T_,T_,T_,T_,T_,T_,F_,T_,F_,F_,F_,F_,F_,F_] rfl rfl (take_ofW HT_.out HW_.out (by kernel_rfl)) (fun _ _ _ h => h) (Or.inl ⟨by rfl, ?_⟩) hHeld ?_ ?_
     rotate_left; (rintro w' ⟨s0, s1, s2, s3, s4, s5, s6, s7⟩; go_simp; with_reducible rfl); rotate_left; (simp only [put_]; rfl)
     refine one_ (i := 12) (N := some 24) #[T_,T_,T_,T_,T_,T_,T_,T_,T_,T_,T_,T_,T_,T_,F_,F_,F_,F_,F_,F_] rfl rfl (one_of HT_.out (by kernel_rfl)) (by decide) (fun K hK => ?_)
     refine goes_ Try.func9 (by kernel_rfl) rfl #[.agg #[.int .u32 a0_0, .int .u32 a0_1, .int .u32 a0_2, .int .u32 a0_3], .agg #[.int .u32 a1_0, .int .u32 a1_1, .int .u32 a1_2, .int .u32 a1_3]] (by rfl) rfl rfl (by (try simp only [List.map_toArray, List.map_cons, List.map_nil]); first | done | rfl | (simp only [List.length_drop, List.length_take]; rfl) | (simp; done)) ?_
     with_reducible refine (rect_Hull.calls a0_0 a0_1 a0_2 a0_3 a1_0 a1_1 a1_2 a1_3 t178 t179 t180 t181 _ A10.out).mono ?_
     rintro e w23 ⟨rfl, hb⟩
     refine ⟨_, rfl, ?_⟩
     replace BK172 := Aside0.mk (blk_below BK172.out hb)
     replace BK173 := Aside0.mk (blk_below BK173.out hb)
     replace BK174 := Aside0.mk (blk_below BK174.out hb)
     replace HB := Aside0.mk (below_step (by repeat (first | (with_reducible first | exact HB.out | apply below_alloc | apply pw_below_drewN | apply below_drew1 | refine below_set ?_ GE172.out | refine below_set ?_ GE173.out | refine below_set ?_ GE174.out) | exact HB.out)) hb)
     refine hK.out _ _ ⟨(blk_cell BK172.out 0).trans rfl, (blk_cell BK172.out 1).trans rfl, (blk_cell BK172.out 2).trans rfl, (blk_cell BK172.out 3).trans rfl, (blk_cell BK173.out 0).trans rfl, (blk_cell BK173.out 1).trans rfl, (blk_cell BK173.out 2).trans rfl, (blk_cell BK173.out 3).trans rfl⟩ (fun hHeld => ?_)
     clear hK K
     refine norm_ (a' := ?_) ?_ ?_
     rotate_left
     ·show Act.put _ (some 24) _ = _
      simp only [put_]
      rfl
     refine pure_ (i := 14) (N := some 26) (v := ?_) (a' := ?_) #[T_,T_,T_,T_,T_,T_,T_,T_,T_,T_,T_,T_,T_,T_,T_,F_,F_,F_,F_,F_] rfl rfl (any_of HT_.out (by kernel_rfl)) (fun _ _ _ h => h) (Or.inl ⟨by rfl, ?_⟩) ?_ ?_
     rotate_left; (intro w'; go_simp; with_reducible rfl); rotate_left; (simp only [put_]; rfl)
     refine pure_ (i := 15) (N := some 27) (v := ?_) (a' := ?_) #[T_,T_,T_,T_,T_,T_,T_,T_,T_,T_,T_,T_,T_,T_,T_,T_,F_,F_,F_,F_] rfl rfl (any_of HT_.out (by kernel_rfl)) (fun _ _ _ h => h) (Or.inl ⟨by rfl, ?_⟩) ?_ ?_
     rotate_left; (intro w'; go_simp; with_reducible rfl); rotate_left; (simp only [put_]; rfl)
     refine pure_ (i := 16) (N := some 28) (v := ?_) (a' := ?_) #[T_,T_,T_,T_,T_,T_,T_,T_,T_,T_,T_,T_,T_,T_,T_,T_,T_,F_,F_,F_] rfl rfl (any_of HT_.out (by kernel_rfl)) (fun _ _ _ h => h) (Or.inl ⟨by rfl, ?_⟩) ?_ ?_
     rotate_left; (intro w'; go_simp; with_reducible rfl); rotate_left; (simp only [put_]; rfl)
     refine one_ (i := 17) (N := some 29) #[T_,T_,T_,T_,T_,T_,T_,T_,T_,T_,T_,T_,T_,T_,T_,T_,T_,T_,F_,F_] rfl rfl (one_of HT_.out (by kernel_rfl)) (by decide) (fun K hK => ?_)
     refine goes_ Try.func14 (by kernel_rfl) rfl #[] (by rfl) rfl rfl (by (try simp only [List.map_toArray, List.map_cons, List.map_nil]); first | done | rfl | (simp only [List.length_drop, List.length_take]; rfl) | (simp; done)) ?_
     with_reducible refine (counterpanelaw04_works.calls  t182 _ A12.out).mono ?_
     rintro e w24 ⟨rfl, hb⟩
     refine ⟨_, rfl, ?_⟩
     replace BK172 := Aside0.mk (blk_below BK172.out hb)
     replace BK173 := Aside0.mk (blk_below BK173.out hb)
     replace BK174 := Aside0.mk (blk_below BK174.out hb)
     replace HB := Aside0.mk (below_step (by repeat (first | (with_reducible first | exact HB.out | apply below_alloc | apply pw_below_drewN | apply below_drew1 | refine below_set ?_ GE172.out | refine below_set ?_ GE173.out | refine below_set ?_ GE174.out) | exact HB.out)) hb)
     refine hK.out _ _ ⟨(blk_cell BK172.out 0).trans rfl, (blk_cell BK172.out 1).trans rfl, (blk_cell BK172.out 2).trans rfl, (blk_cell BK172.out 3).trans rfl, (blk_cell BK173.out 0).trans rfl, (blk_cell BK173.out 1).trans rfl, (blk_cell BK173.out 2).trans rfl, (blk_cell BK173.out 3).trans rfl⟩ (fun hHeld => ?_)
     clear hK K
     refine norm_ (a' := ?_) ?_ ?_
     rotate_left
     ·show Act.put _ (some 29) _ = _
      simp only [put_]
      rfl
     refine pure_ (i := 18) (N := some 30) (v := ?_) (a' := ?_) #[T_,T_,T_,T_,T_,T_,T_,T_,T_,T_,T_,T_,T_,T_,T_,T_,T_,T_,T_,F_] rfl rfl (any_of HT_.out (by kernel_rfl)) (fun _ _ _ h => h) (Or.inl ⟨by rfl, ?_⟩) ?_ ?_
     rotate_left; (intro w'; go_simp; with_reducible rfl); rotate_left; (simp only [put_]; rfl)
     refine pure_ (i := 19) (N := some 6) (v := ?_) (a' := ?_) #[T_,T_,T_,T_,T_,T_,T_,T_,T_,T_,T_,T_,T_,T_,T_,T_,T_,T_,T_,T_] rfl rfl (any_of HT_.out (by kernel_rfl)) (fun _ _ _ h => h) (Or.inl ⟨by rfl, ?_⟩) ?_ ?_
     rotate_left; (intro w'; go_simp; with_reducible rfl); rotate_left; (simp only [put_]; rfl)
     refine done_ (done_of HT_.out (by kernel_rfl)) ?_
     try go_wp2
     go_ret
     exact ⟨by first | rfl | (simp [errW_none, errW_some] <;> rfl) | (simp [*, errW_none, errW_some] <;> rfl), by repeat (first | (with_reducible first | exact HB.out | apply below_alloc | apply pw_below_drewN | apply below_drew1 | refine below_set ?_ GE172.out | refine below_set ?_ GE173.out | refine below_set ?_ GE174.out) | exact HB.out)⟩
    ·rw [if_neg c11] at H
     have c11b0 : (t178 == a1_0 && (t179 == a1_1 && (t180 == a1_2 && (t181 == a1_3)))) = false := by simpa using c11
     (try (have c11b1 : decide (t178 = a1_0 && (t179 == a1_1 && (t180 == a1_2 && (t181 == a1_3)))) = false := by simpa using c11))
     (try (have c11b2 : (t178 == a1_0 && (t179 == a1_1 && (t180 == a1_2 && (t181 == a1_3)))) = false := by simpa using c11))
     (try (have c11b3 : ¬ (t178 = a1_0 && (t179 == a1_1 && (t180 == a1_2 && (t181 == a1_3)))) := by simpa using c11))
     clear c11
     exact absurd H (by simp)
   ·replace c9 := Bool.eq_false_iff.mpr c9
    subst c9
    have H1 : (none) = some r := by rw [if_neg (show ¬ (false = true) by decide)] at H; exact H
    clear H
    have H := H1
    clear H1
    exact absurd H (by simp)
 ·replace c5 := Bool.eq_false_iff.mpr c5
  subst c5
  have H1 : ((counterpaneref04_Has.f a1_0 a1_1 a1_2 a1_3 a0_0 a0_1).bind fun t183 => (if t183 = true then ((counterpaneref04_Has.f a1_0 a1_1 a1_2 a1_3 a0_2 a0_3).bind fun t184 => (counterpanelaw04_RectWhole.j0 k t184 a0_0 a0_1 a0_2 a0_3 a1_0 a1_1 a1_2 a1_3 a2_0 a2_1 a2_2 a2_3)) else (counterpanelaw04_RectWhole.j0 k false a0_0 a0_1 a0_2 a0_3 a1_0 a1_1 a1_2 a1_3 a2_0 a2_1 a2_2 a2_3))) = some r := by rw [if_neg (show ¬ (false = true) by decide)] at H; exact H
  clear H
  have H := H1
  clear H1
  have HC25 := Aside0.mk H
  clear H
  go_enter Try.func4, Try.ntmps4
  go_upto_region 3 with (first | ((with_reducible refine gate_dst (N := 3) rfl ?_); refine box_event ?hg (N := 3) ?hd (cs := #[.int .u32 a0_0, .int .u32 a0_1, .int .u32 a0_2, .int .u32 a0_3]) (t := 24) ?hr ?_; (case hd => rfl); (case hg => rfl); (case hr => first | (go_simp; done) | (go_simp; rfl)); intro gb172 hg w26 hbox hb; have n0_ := Aside0.mk (below_step (by repeat (first | (with_reducible first | exact HB.out | apply below_alloc | apply pw_below_drewN | apply below_drew1) | exact HB.out)) hb); have n1_ := Aside0.mk (hbox); have n2_ := Aside0.mk ((by rw [hg]; exact (below_size (by repeat (first | (with_reducible first | exact HB.out | apply below_alloc | apply pw_below_drewN | apply below_drew1) | exact HB.out))) : w.heap.size ≤ gb172)); have n3_ := Aside0.mk ((by rw [hg]; exact (below_size (by repeat (first | (with_reducible first | exact HB.out | apply below_alloc | apply pw_below_drewN | apply below_drew1) | exact HB.out))) : w.heap.size ≤ gb172)); clear HB; have HB := n0_; have BK172 := n1_; have GW172 := n2_; have GE172 := n3_; clear n0_ n1_ n2_ n3_; clear hb hbox hg) | ((with_reducible refine gate_dst (N := 4) rfl ?_); refine box_event ?hg (N := 4) ?hd (cs := #[.int .u32 a1_0, .int .u32 a1_1, .int .u32 a1_2, .int .u32 a1_3]) (t := 24) ?hr ?_; (case hd => rfl); (case hg => rfl); (case hr => first | (go_simp; done) | (go_simp; rfl)); intro gb173 hg w27 hbox hb; have n0_ := Aside0.mk (blk_below BK172.out hb); have n1_ := Aside0.mk (below_step (by repeat (first | (with_reducible first | exact HB.out | apply below_alloc | apply pw_below_drewN | apply below_drew1 | refine below_set ?_ GE172.out) | exact HB.out)) hb); have n2_ := Aside0.mk (hbox); have n3_ := Aside0.mk ((by rw [hg]; exact (below_size (by repeat (first | (with_reducible first | exact HB.out | apply below_alloc | apply pw_below_drewN | apply below_drew1 | refine below_set ?_ GE172.out) | exact HB.out))) : w.heap.size ≤ gb173)); have n4_ := Aside0.mk ((by rw [hg]; exact (below_size (by repeat (first | (with_reducible first | exact HB.out | apply below_alloc | apply pw_below_drewN | apply below_drew1 | refine below_set ?_ GE172.out) | exact HB.out))) : w.heap.size ≤ gb173)); have n5_ := Aside0.mk ((by rw [hg]; exact Nat.ne_of_lt (blk_lt BK172.out) : gb172 ≠ gb173)); have n6_ := Aside0.mk ((by rw [hg]; exact Nat.ne_of_gt (blk_lt BK172.out) : gb173 ≠ gb172)); clear BK172; clear HB; have BK172 := n0_; have HB := n1_; have BK173 := n2_; have GW173 := n3_; have GE173 := n4_; have NB172_173 := n5_; have NB173_172 := n6_; clear n0_ n1_ n2_ n3_ n4_ n5_ n6_; clear hb hbox hg) | ((with_reducible refine gate_dst (N := 5) rfl ?_); refine box_event ?hg (N := 5) ?hd (cs := #[.int .u32 a2_0, .int .u32 a2_1, .int .u32 a2_2, .int .u32 a2_3]) (t := 24) ?hr ?_; (case hd => rfl); (case hg => rfl); (case hr => first | (go_simp; done) | (go_simp; rfl)); intro gb174 hg w28 hbox hb; have n0_ := Aside0.mk (blk_below BK172.out hb); have n1_ := Aside0.mk (blk_below BK173.out hb); have n2_ := Aside0.mk (below_step (by repeat (first | (with_reducible first | exact HB.out | apply below_alloc | apply pw_below_drewN | apply below_drew1 | refine below_set ?_ GE172.out | refine below_set ?_ GE173.out) | exact HB.out)) hb); have n3_ := Aside0.mk (hbox); have n4_ := Aside0.mk ((by rw [hg]; exact (below_size (by repeat (first | (with_reducible first | exact HB.out | apply below_alloc | apply pw_below_drewN | apply below_drew1 | refine below_set ?_ GE172.out | refine below_set ?_ GE173.out) | exact HB.out))) : w.heap.size ≤ gb174)); have n5_ := Aside0.mk ((by rw [hg]; exact (below_size (by repeat (first | (with_reducible first | exact HB.out | apply below_alloc | apply pw_below_drewN | apply below_drew1 | refine below_set ?_ GE172.out | refine below_set ?_ GE173.out) | exact HB.out))) : w.heap.size ≤ gb174)); have n6_ := Aside0.mk ((by rw [hg]; exact Nat.ne_of_lt (blk_lt BK172.out) : gb172 ≠ gb174)); have n7_ := Aside0.mk ((by rw [hg]; exact Nat.ne_of_gt (blk_lt BK172.out) : gb174 ≠ gb172)); have n8_ := Aside0.mk ((by rw [hg]; exact Nat.ne_of_lt (blk_lt BK173.out) : gb173 ≠ gb174)); have n9_ := Aside0.mk ((by rw [hg]; exact Nat.ne_of_gt (blk_lt BK173.out) : gb174 ≠ gb173)); clear BK172; clear BK173; clear HB; have BK172 := n0_; have BK173 := n1_; have HB := n2_; have BK174 := n3_; have GW174 := n4_; have GE174 := n5_; have NB172_174 := n6_; have NB174_172 := n7_; have NB173_174 := n8_; have NB174_173 := n9_; clear n0_ n1_ n2_ n3_ n4_ n5_ n6_ n7_ n8_ n9_; clear hb hbox hg; have hnb29 := NB172_173.out; have hnc29 := NB173_172.out; have hnb30 := NB172_174.out; have hnc30 := NB174_172.out; have hcz31_0 : w28.cell? ⟨gb172, 0, none⟩ = some (.int .u32 a0_0) := (blk_cell BK172.out 0).trans rfl; have hcz31_1 : w28.cell? ⟨gb172, 1, none⟩ = some (.int .u32 a0_1) := (blk_cell BK172.out 1).trans rfl; have hcz31_2 : w28.cell? ⟨gb172, 2, none⟩ = some (.int .u32 a0_2) := (blk_cell BK172.out 2).trans rfl; have hcz31_3 : w28.cell? ⟨gb172, 3, none⟩ = some (.int .u32 a0_3) := (blk_cell BK172.out 3).trans rfl; have hfz31_0 := blk_frozen BK172.out 0; have hfz31_1 := blk_frozen BK172.out 1; have hfz31_2 := blk_frozen BK172.out 2; have hfz31_3 := blk_frozen BK172.out 3) | ((with_reducible refine gate_callee (f := 10) rfl ?_); refine goesL_ (some 11) rfl rfl Try.func10 (by kernel_rfl) rfl #[.agg #[.int .u32 a0_0, .int .u32 a0_1, .int .u32 a0_2, .int .u32 a0_3]] rfl (by (try simp only [List.map_toArray, List.map_cons, List.map_nil]); first | done | rfl | (simp only [List.length_drop, List.length_take]; rfl) | (simp; done)) ?_; (with_reducible refine (rect_Empty.calls a0_0 a0_1 a0_2 a0_3 false _ A4.out).mono ?_); rintro e w32 ⟨rfl, hb⟩; refine ⟨_, rfl, ?_⟩; replace BK172 := Aside0.mk (blk_below BK172.out hb); replace BK173 := Aside0.mk (blk_below BK173.out hb); replace BK174 := Aside0.mk (blk_below BK174.out hb); replace HB := Aside0.mk (below_step (by repeat (first | (with_reducible first | exact HB.out | apply below_alloc | apply pw_below_drewN | apply below_drew1 | refine below_set ?_ GE172.out | refine below_set ?_ GE173.out | refine below_set ?_ GE174.out) | exact HB.out)) hb); (try clear hb); (try clear hb2); (try clear hk); (try clear hi)))
  (try simp only [Act.put, List.setIfInBounds_toArray, List.set_cons_zero, List.set_cons_succ])
  go_cut [7] (fun v7 wc => ∃ (kq : Nat) (x7_24 : Bool), v7 = .bool x7_24 ∧ Aside0 (counterpanelaw04_RectWhole.j0 kq x7_24 a0_0 a0_1 a0_2 a0_3 a1_0 a1_1 a1_2 a1_3 a2_0 a2_1 a2_2 a2_3 = some r) ∧ Aside0 (kq ≤ k) ∧ Aside0 (wc.heap[gb172]? = some (.cells #[.int .u32 a0_0, .int .u32 a0_1, .int .u32 a0_2, .int .u32 a0_3] 24 (0, 0))) ∧ Aside0 (wc.heap[gb173]? = some (.cells #[.int .u32 a1_0, .int .u32 a1_1, .int .u32 a1_2, .int .u32 a1_3] 24 (0, 0))) ∧ Aside0 (wc.heap[gb174]? = some (.cells #[.int .u32 a2_0, .int .u32 a2_1, .int .u32 a2_2, .int .u32 a2_3] 24 (0, 0))) ∧ Aside0 (Below w.heap.size w wc))
  case first =>
   have H := HC25.out
   clear HC25
   replace H := Option.bind_eq_some_iff.mp H
   obtain ⟨t183, A330, H⟩ := H
   replace H : (if t183 = true then ((counterpaneref04_Has.f a1_0 a1_1 a1_2 a1_3 a0_2 a0_3).bind fun t184 => (counterpanelaw04_RectWhole.j0 k t184 a0_0 a0_1 a0_2 a0_3 a1_0 a1_1 a1_2 a1_3 a2_0 a2_1 a2_2 a2_3)) else (counterpanelaw04_RectWhole.j0 k false a0_0 a0_1 a0_2 a0_3 a1_0 a1_1 a1_2 a1_3 a2_0 a2_1 a2_2 a2_3)) = some r := H
   have A33 := Aside0.mk A330
   clear A330
   by_cases c34 : t183 = true
   ·subst c34
    have H1 : ((counterpaneref04_Has.f a1_0 a1_1 a1_2 a1_3 a0_2 a0_3).bind fun t184 => (counterpanelaw04_RectWhole.j0 k t184 a0_0 a0_1 a0_2 a0_3 a1_0 a1_1 a1_2 a1_3 a2_0 a2_1 a2_2 a2_3)) = some r := by rw [if_pos rfl] at H; exact H
    clear H
    have H := H1
    clear H1
    replace H := Option.bind_eq_some_iff.mp H
    obtain ⟨t184, A350, H⟩ := H
    replace H : (counterpanelaw04_RectWhole.j0 k t184 a0_0 a0_1 a0_2 a0_3 a1_0 a1_1 a1_2 a1_3 a2_0 a2_1 a2_2 a2_3) = some r := H
    have A35 := Aside0.mk A350
    clear A350
    have H' := Aside0.mk H
    clear H
    have hnb36 := NB173_172.out
    have hnc36 := NB172_173.out
    have hnb37 := NB173_174.out
    have hnc37 := NB174_173.out
    have hcz38_0 : w32.cell? ⟨gb173, 0, none⟩ = some (.int .u32 a1_0) := (blk_cell BK173.out 0).trans rfl
    have hcz38_1 : w32.cell? ⟨gb173, 1, none⟩ = some (.int .u32 a1_1) := (blk_cell BK173.out 1).trans rfl
    have hcz38_2 : w32.cell? ⟨gb173, 2, none⟩ = some (.int .u32 a1_2) := (blk_cell BK173.out 2).trans rfl
    have hcz38_3 : w32.cell? ⟨gb173, 3, none⟩ = some (.int .u32 a1_3) := (blk_cell BK173.out 3).trans rfl
    have hfz38_0 := blk_frozen BK173.out 0
    have hfz38_1 := blk_frozen BK173.out 1
    have hfz38_2 := blk_frozen BK173.out 2
    have hfz38_3 := blk_frozen BK173.out 3
    have hnb39 := NB172_174.out
    have hnc39 := NB174_172.out
    have hcz40_0 : w32.cell? ⟨gb172, 0, none⟩ = some (.int .u32 a0_0) := (blk_cell BK172.out 0).trans rfl
    have hcz40_1 : w32.cell? ⟨gb172, 1, none⟩ = some (.int .u32 a0_1) := (blk_cell BK172.out 1).trans rfl
    have hcz40_2 : w32.cell? ⟨gb172, 2, none⟩ = some (.int .u32 a0_2) := (blk_cell BK172.out 2).trans rfl
    have hcz40_3 : w32.cell? ⟨gb172, 3, none⟩ = some (.int .u32 a0_3) := (blk_cell BK172.out 3).trans rfl
    have hfz40_0 := blk_frozen BK172.out 0
    have hfz40_1 := blk_frozen BK172.out 1
    have hfz40_2 := blk_frozen BK172.out 2
    have hfz40_3 := blk_frozen BK172.out 3
    go_wp2_with (first | ((with_reducible refine gate_callee (f := 6) rfl ?_); refine goesL_ (some 36) rfl rfl Try.func6 (by kernel_rfl) rfl #[.agg #[.int .u32 a1_0, .int .u32 a1_1, .int .u32 a1_2, .int .u32 a1_3], .int .u32 a0_0, .int .u32 a0_1] rfl (by (try simp only [List.map_toArray, List.map_cons, List.map_nil]); first | done | rfl | (simp only [List.length_drop, List.length_take]; rfl) | (simp; done)) ?_; (with_reducible refine (counterpaneref04_Has.calls a1_0 a1_1 a1_2 a1_3 a0_0 a0_1 true _ A33.out).mono ?_); rintro e w41 ⟨rfl, hb⟩; refine ⟨_, rfl, ?_⟩; replace BK172 := Aside0.mk (blk_below BK172.out hb); replace BK173 := Aside0.mk (blk_below BK173.out hb); replace BK174 := Aside0.mk (blk_below BK174.out hb); replace HB := Aside0.mk (below_step (by repeat (first | (with_reducible first | exact HB.out | apply below_alloc | apply pw_below_drewN | apply below_drew1 | refine below_set ?_ GE172.out | refine below_set ?_ GE173.out | refine below_set ?_ GE174.out) | exact HB.out)) hb); (try clear hb); (try clear hb2); (try clear hk); (try clear hi); have hcz42_0 : w41.cell? ⟨gb173, 0, none⟩ = some (.int .u32 a1_0) := (blk_cell BK173.out 0).trans rfl; have hcz42_1 : w41.cell? ⟨gb173, 1, none⟩ = some (.int .u32 a1_1) := (blk_cell BK173.out 1).trans rfl; have hcz42_2 : w41.cell? ⟨gb173, 2, none⟩ = some (.int .u32 a1_2) := (blk_cell BK173.out 2).trans rfl; have hcz42_3 : w41.cell? ⟨gb173, 3, none⟩ = some (.int .u32 a1_3) := (blk_cell BK173.out 3).trans rfl; have hfz42_0 := blk_frozen BK173.out 0; have hfz42_1 := blk_frozen BK173.out 1; have hfz42_2 := blk_frozen BK173.out 2; have hfz42_3 := blk_frozen BK173.out 3; have hcz43_0 : w41.cell? ⟨gb172, 0, none⟩ = some (.int .u32 a0_0) := (blk_cell BK172.out 0).trans rfl; have hcz43_1 : w41.cell? ⟨gb172, 1, none⟩ = some (.int .u32 a0_1) := (blk_cell BK172.out 1).trans rfl; have hcz43_2 : w41.cell? ⟨gb172, 2, none⟩ = some (.int .u32 a0_2) := (blk_cell BK172.out 2).trans rfl; have hcz43_3 : w41.cell? ⟨gb172, 3, none⟩ = some (.int .u32 a0_3) := (blk_cell BK172.out 3).trans rfl; have hfz43_0 := blk_frozen BK172.out 0; have hfz43_1 := blk_frozen BK172.out 1; have hfz43_2 := blk_frozen BK172.out 2; have hfz43_3 := blk_frozen BK172.out 3) | (go_at_call 6; (with_reducible refine (counterpaneref04_Has.calls a1_0 a1_1 a1_2 a1_3 a0_2 a0_3 t184 _ A35.out).mono ?_); rintro e w44 ⟨rfl, hb⟩; replace BK172 := Aside0.mk (blk_below BK172.out hb); replace BK173 := Aside0.mk (blk_below BK173.out hb); replace BK174 := Aside0.mk (blk_below BK174.out hb); replace HB := Aside0.mk (below_step (by repeat (first | (with_reducible first | exact HB.out | apply below_alloc | apply pw_below_drewN | apply below_drew1 | refine below_set ?_ GE172.out | refine below_set ?_ GE173.out | refine below_set ?_ GE174.out) | exact HB.out)) hb); (try clear hb); (try clear hb2); (try clear hk); (try clear hi)))
    go_meet
    case rel => exact ⟨_, (t184), (by first | rfl | (simp; done) | (simp [*]; done)), H', ⟨by first | omega | exact Nat.le_refl _⟩, ⟨by exact BK172.out⟩, ⟨by exact BK173.out⟩, ⟨by exact BK174.out⟩, ⟨by repeat (first | (with_reducible first | exact HB.out | apply below_alloc | apply pw_below_drewN | apply below_drew1 | refine below_set ?_ GE172.out | refine below_set ?_ GE173.out | refine below_set ?_ GE174.out) | exact HB.out)⟩⟩
   ·replace c34 := Bool.eq_false_iff.mpr c34
    subst c34
    have H1 : (counterpanelaw04_RectWhole.j0 k false a0_0 a0_1 a0_2 a0_3 a1_0 a1_1 a1_2 a1_3 a2_0 a2_1 a2_2 a2_3) = some r := by rw [if_neg (show ¬ (false = true) by decide)] at H; exact H
    clear H
    have H := H1
    clear H1
    have H' := Aside0.mk H
    clear H
    have hnb45 := NB173_172.out
    have hnc45 := NB172_173.out
    have hnb46 := NB173_174.out
    have hnc46 := NB174_173.out
    have hcz47_0 : w32.cell? ⟨gb173, 0, none⟩ = some (.int .u32 a1_0) := (blk_cell BK173.out 0).trans rfl
    have hcz47_1 : w32.cell? ⟨gb173, 1, none⟩ = some (.int .u32 a1_1) := (blk_cell BK173.out 1).trans rfl
    have hcz47_2 : w32.cell? ⟨gb173, 2, none⟩ = some (.int .u32 a1_2) := (blk_cell BK173.out 2).trans rfl
    have hcz47_3 : w32.cell? ⟨gb173, 3, none⟩ = some (.int .u32 a1_3) := (blk_cell BK173.out 3).trans rfl
    have hfz47_0 := blk_frozen BK173.out 0
    have hfz47_1 := blk_frozen BK173.out 1
    have hfz47_2 := blk_frozen BK173.out 2
    have hfz47_3 := blk_frozen BK173.out 3
    have hnb48 := NB172_174.out
    have hnc48 := NB174_172.out
    have hcz49_0 : w32.cell? ⟨gb172, 0, none⟩ = some (.int .u32 a0_0) := (blk_cell BK172.out 0).trans rfl
    have hcz49_1 : w32.cell? ⟨gb172, 1, none⟩ = some (.int .u32 a0_1) := (blk_cell BK172.out 1).trans rfl
    have hcz49_2 : w32.cell? ⟨gb172, 2, none⟩ = some (.int .u32 a0_2) := (blk_cell BK172.out 2).trans rfl
    have hcz49_3 : w32.cell? ⟨gb172, 3, none⟩ = some (.int .u32 a0_3) := (blk_cell BK172.out 3).trans rfl
    have hfz49_0 := blk_frozen BK172.out 0
    have hfz49_1 := blk_frozen BK172.out 1
    have hfz49_2 := blk_frozen BK172.out 2
    have hfz49_3 := blk_frozen BK172.out 3
    go_wp2_with (first | ((with_reducible refine gate_callee (f := 6) rfl ?_); refine goesL_ (some 36) rfl rfl Try.func6 (by kernel_rfl) rfl #[.agg #[.int .u32 a1_0, .int .u32 a1_1, .int .u32 a1_2, .int .u32 a1_3], .int .u32 a0_0, .int .u32 a0_1] rfl (by (try simp only [List.map_toArray, List.map_cons, List.map_nil]); first | done | rfl | (simp only [List.length_drop, List.length_take]; rfl) | (simp; done)) ?_; (with_reducible refine (counterpaneref04_Has.calls a1_0 a1_1 a1_2 a1_3 a0_0 a0_1 false _ A33.out).mono ?_); rintro e w50 ⟨rfl, hb⟩; refine ⟨_, rfl, ?_⟩; replace BK172 := Aside0.mk (blk_below BK172.out hb); replace BK173 := Aside0.mk (blk_below BK173.out hb); replace BK174 := Aside0.mk (blk_below BK174.out hb); replace HB := Aside0.mk (below_step (by repeat (first | (with_reducible first | exact HB.out | apply below_alloc | apply pw_below_drewN | apply below_drew1 | refine below_set ?_ GE172.out | refine below_set ?_ GE173.out | refine below_set ?_ GE174.out) | exact HB.out)) hb); (try clear hb); (try clear hb2); (try clear hk); (try clear hi)))
    go_meet
    case rel => exact ⟨_, (false), (by first | rfl | (simp; done) | (simp [*]; done)), H', ⟨by first | omega | exact Nat.le_refl _⟩, ⟨by exact BK172.out⟩, ⟨by exact BK173.out⟩, ⟨by exact BK174.out⟩, ⟨by repeat (first | (with_reducible first | exact HB.out | apply below_alloc | apply pw_below_drewN | apply below_drew1 | refine below_set ?_ GE172.out | refine below_set ?_ GE173.out | refine below_set ?_ GE174.out) | exact HB.out)⟩⟩
  case rest =>
   clear HC25
   try clear c1
   try clear c2
   try clear p2
   try clear c3
   try clear c4
   try clear c5
   try clear c6
   try clear c7
   try clear c9
   try clear c10
   try clear c11
   try clear c11b0
   try clear c11b1
   try clear c11b2
   try clear c12
   try clear c14
   try clear c16
   try clear c17
   try clear c29
   try clear c30
   try clear c34
   try clear c36
   try clear c37
   try clear c39
   try clear c45
   try clear c46
   try clear c48
   try clear hcz18_0
   try clear hcz18_1
   try clear hcz18_2
   try clear hcz18_3
   try clear hcz31_0
   try clear hcz31_1
   try clear hcz31_2
   try clear hcz31_3
   try clear hcz38_0
   try clear hcz38_1
   try clear hcz38_2
   try clear hcz38_3
   try clear hcz40_0
   try clear hcz40_1
   try clear hcz40_2
   try clear hcz40_3
   try clear hcz42_0
   try clear hcz42_1
   try clear hcz42_2
   try clear hcz42_3
   try clear hcz43_0
   try clear hcz43_1
   try clear hcz43_2
   try clear hcz43_3
   try clear hcz47_0
   try clear hcz47_1
   try clear hcz47_2
   try clear hcz47_3
   try clear hcz49_0
   try clear hcz49_1
   try clear hcz49_2
   try clear hcz49_3
   try clear hfz18_0
   try clear hfz18_1
   try clear hfz18_2
   try clear hfz18_3
   try clear hfz31_0
   try clear hfz31_1
   try clear hfz31_2
   try clear hfz31_3
   try clear hfz38_0
   try clear hfz38_1
   try clear hfz38_2
   try clear hfz38_3
   try clear hfz40_0
   try clear hfz40_1
   try clear hfz40_2
   try clear hfz40_3
   try clear hfz42_0
   try clear hfz42_1
   try clear hfz42_2
   try clear hfz42_3
   try clear hfz43_0
   try clear hfz43_1
   try clear hfz43_2
   try clear hfz43_3
   try clear hfz47_0
   try clear hfz47_1
   try clear hfz47_2
   try clear hfz47_3
   try clear hfz49_0
   try clear hfz49_1
   try clear hfz49_2
   try clear hfz49_3
   obtain ⟨kq, x7_24, rfl, HA, HJ24, BK172, BK173, BK174, HB⟩ := hcut
   cases kq with
   | zero => exact absurd HA.out (by simp [counterpanelaw04_RectWhole.j0])
   | succ kj24 =>
    have H := HA.out
    clear HA
    simp only [counterpanelaw04_RectWhole.j0] at H
    have HC51 := Aside0.mk H
    clear H
    go_upto_region 4 with (fail)
    go_cut [67] (fun v67 wc => ∃ (kq : Nat) (x67_50 : Bool), v67 = .bool x67_50 ∧ Aside0 (counterpanelaw04_RectWhole.j1 kq x67_50 a0_0 a0_1 a0_2 a0_3 a1_0 a1_1 a1_2 a1_3 a2_0 a2_1 a2_2 a2_3 = some r) ∧ Aside0 (kq ≤ kj24) ∧ Aside0 (wc.heap[gb172]? = some (.cells #[.int .u32 a0_0, .int .u32 a0_1, .int .u32 a0_2, .int .u32 a0_3] 24 (0, 0))) ∧ Aside0 (wc.heap[gb173]? = some (.cells #[.int .u32 a1_0, .int .u32 a1_1, .int .u32 a1_2, .int .u32 a1_3] 24 (0, 0))) ∧ Aside0 (wc.heap[gb174]? = some (.cells #[.int .u32 a2_0, .int .u32 a2_1, .int .u32 a2_2, .int .u32 a2_3] 24 (0, 0))) ∧ Aside0 (Below w.heap.size w wc))
    case first =>
     have H := HC51.out
     clear HC51
     replace H := Option.bind_eq_some_iff.mp H
     obtain ⟨t185, A520, H⟩ := H
     replace H : (if t185 = true then ((counterpaneref04_Has.f a0_0 a0_1 a0_2 a0_3 a0_2 a0_3).bind fun t186 => (if t186 = true then ((rect_Within.f a0_0 a0_1 a0_2 a0_3 a1_0 a1_1 a1_2 a1_3).bind fun t187 => (counterpanelaw04_RectWhole.j1 kj24 (t187 != x7_24) a0_0 a0_1 a0_2 a0_3 a1_0 a1_1 a1_2 a1_3 a2_0 a2_1 a2_2 a2_3)) else (counterpanelaw04_RectWhole.j1 kj24 true a0_0 a0_1 a0_2 a0_3 a1_0 a1_1 a1_2 a1_3 a2_0 a2_1 a2_2 a2_3))) else (counterpanelaw04_RectWhole.j1 kj24 true a0_0 a0_1 a0_2 a0_3 a1_0 a1_1 a1_2 a1_3 a2_0 a2_1 a2_2 a2_3)) = some r := H
     have A52 := Aside0.mk A520
     clear A520
     by_cases c53 : t185 = true
     ·subst c53
      have H1 : ((counterpaneref04_Has.f a0_0 a0_1 a0_2 a0_3 a0_2 a0_3).bind fun t186 => (if t186 = true then ((rect_Within.f a0_0 a0_1 a0_2 a0_3 a1_0 a1_1 a1_2 a1_3).bind fun t187 => (counterpanelaw04_RectWhole.j1 kj24 (t187 != x7_24) a0_0 a0_1 a0_2 a0_3 a1_0 a1_1 a1_2 a1_3 a2_0 a2_1 a2_2 a2_3)) else (counterpanelaw04_RectWhole.j1 kj24 true a0_0 a0_1 a0_2 a0_3 a1_0 a1_1 a1_2 a1_3 a2_0 a2_1 a2_2 a2_3))) = some r := by rw [if_pos rfl] at H; exact H
      clear H
      have H := H1
      clear H1
      replace H := Option.bind_eq_some_iff.mp H
      obtain ⟨t186, A540, H⟩ := H
      replace H : (if t186 = true then ((rect_Within.f a0_0 a0_1 a0_2 a0_3 a1_0 a1_1 a1_2 a1_3).bind fun t187 => (counterpanelaw04_RectWhole.j1 kj24 (t187 != x7_24) a0_0 a0_1 a0_2 a0_3 a1_0 a1_1 a1_2 a1_3 a2_0 a2_1 a2_2 a2_3)) else (counterpanelaw04_RectWhole.j1 kj24 true a0_0 a0_1 a0_2 a0_3 a1_0 a1_1 a1_2 a1_3 a2_0 a2_1 a2_2 a2_3)) = some r := H
      have A54 := Aside0.mk A540
      clear A540
      by_cases c55 : t186 = true
      ·subst c55
       have H1 : ((rect_Within.f a0_0 a0_1 a0_2 a0_3 a1_0 a1_1 a1_2 a1_3).bind fun t187 => (counterpanelaw04_RectWhole.j1 kj24 (t187 != x7_24) a0_0 a0_1 a0_2 a0_3 a1_0 a1_1 a1_2 a1_3 a2_0 a2_1 a2_2 a2_3)) = some r := by rw [if_pos rfl] at H; exact H
       clear H
       have H := H1
       clear H1
       replace H := Option.bind_eq_some_iff.mp H
       obtain ⟨t187, A560, H⟩ := H
       replace H : (counterpanelaw04_RectWhole.j1 kj24 (t187 != x7_24) a0_0 a0_1 a0_2 a0_3 a1_0 a1_1 a1_2 a1_3 a2_0 a2_1 a2_2 a2_3) = some r := H
       have A56 := Aside0.mk A560
       clear A560
       have H' := Aside0.mk H
       clear H
       have hnb57 := NB172_173.out
       have hnc57 := NB173_172.out
       have hnb58 := NB172_174.out
       have hnc58 := NB174_172.out
       have hcz59_0 : wc.cell? ⟨gb172, 0, none⟩ = some (.int .u32 a0_0) := (blk_cell BK172.out 0).trans rfl
       have hcz59_1 : wc.cell? ⟨gb172, 1, none⟩ = some (.int .u32 a0_1) := (blk_cell BK172.out 1).trans rfl
       have hcz59_2 : wc.cell? ⟨gb172, 2, none⟩ = some (.int .u32 a0_2) := (blk_cell BK172.out 2).trans rfl
       have hcz59_3 : wc.cell? ⟨gb172, 3, none⟩ = some (.int .u32 a0_3) := (blk_cell BK172.out 3).trans rfl
       have hfz59_0 := blk_frozen BK172.out 0
       have hfz59_1 := blk_frozen BK172.out 1
       have hfz59_2 := blk_frozen BK172.out 2
       have hfz59_3 := blk_frozen BK172.out 3
       go_wp2_with (first | ((with_reducible refine gate_callee (f := 6) rfl ?_); refine goesL_ (some 50) rfl rfl Try.func6 (by kernel_rfl) rfl #[.agg #[.int .u32 a0_0, .int .u32 a0_1, .int .u32 a0_2, .int .u32 a0_3], .int .u32 a0_0, .int .u32 a0_1] rfl (by (try simp only [List.map_toArray, List.map_cons, List.map_nil]); first | done | rfl | (simp only [List.length_drop, List.length_take]; rfl) | (simp; done)) ?_; (with_reducible refine (counterpaneref04_Has.calls a0_0 a0_1 a0_2 a0_3 a0_0 a0_1 true _ A52.out).mono ?_); rintro e w60 ⟨rfl, hb⟩; refine ⟨_, rfl, ?_⟩; replace BK172 := Aside0.mk (blk_below BK172.out hb); replace BK173 := Aside0.mk (blk_below BK173.out hb); replace BK174 := Aside0.mk (blk_below BK174.out hb); replace HB := Aside0.mk (below_step (by repeat (first | (with_reducible first | exact HB.out | apply below_alloc | apply pw_below_drewN | apply below_drew1 | refine below_set ?_ GE172.out | refine below_set ?_ GE173.out | refine below_set ?_ GE174.out) | exact HB.out)) hb); (try clear hb); (try clear hb2); (try clear hk); (try clear hi); have hcz61_0 : w60.cell? ⟨gb172, 0, none⟩ = some (.int .u32 a0_0) := (blk_cell BK172.out 0).trans rfl; have hcz61_1 : w60.cell? ⟨gb172, 1, none⟩ = some (.int .u32 a0_1) := (blk_cell BK172.out 1).trans rfl; have hcz61_2 : w60.cell? ⟨gb172, 2, none⟩ = some (.int .u32 a0_2) := (blk_cell BK172.out 2).trans rfl; have hcz61_3 : w60.cell? ⟨gb172, 3, none⟩ = some (.int .u32 a0_3) := (blk_cell BK172.out 3).trans rfl; have hfz61_0 := blk_frozen BK172.out 0; have hfz61_1 := blk_frozen BK172.out 1; have hfz61_2 := blk_frozen BK172.out 2; have hfz61_3 := blk_frozen BK172.out 3) | (go_at_call 6; (with_reducible refine (counterpaneref04_Has.calls a0_0 a0_1 a0_2 a0_3 a0_2 a0_3 true _ A54.out).mono ?_); rintro e w62 ⟨rfl, hb⟩; replace BK172 := Aside0.mk (blk_below BK172.out hb); replace BK173 := Aside0.mk (blk_below BK173.out hb); replace BK174 := Aside0.mk (blk_below BK174.out hb); replace HB := Aside0.mk (below_step (by repeat (first | (with_reducible first | exact HB.out | apply below_alloc | apply pw_below_drewN | apply below_drew1 | refine below_set ?_ GE172.out | refine below_set ?_ GE173.out | refine below_set ?_ GE174.out) | exact HB.out)) hb); (try clear hb); (try clear hb2); (try clear hk); (try clear hi); have hcz63_0 : w62.cell? ⟨gb172, 0, none⟩ = some (.int .u32 a0_0) := (blk_cell BK172.out 0).trans rfl; have hcz63_1 : w62.cell? ⟨gb172, 1, none⟩ = some (.int .u32 a0_1) := (blk_cell BK172.out 1).trans rfl; have hcz63_2 : w62.cell? ⟨gb172, 2, none⟩ = some (.int .u32 a0_2) := (blk_cell BK172.out 2).trans rfl; have hcz63_3 : w62.cell? ⟨gb172, 3, none⟩ = some (.int .u32 a0_3) := (blk_cell BK172.out 3).trans rfl; have hfz63_0 := blk_frozen BK172.out 0; have hfz63_1 := blk_frozen BK172.out 1; have hfz63_2 := blk_frozen BK172.out 2; have hfz63_3 := blk_frozen BK172.out 3; have hnb64 := NB173_174.out; have hnc64 := NB174_173.out; have hcz65_0 : w62.cell? ⟨gb173, 0, none⟩ = some (.int .u32 a1_0) := (blk_cell BK173.out 0).trans rfl; have hcz65_1 : w62.cell? ⟨gb173, 1, none⟩ = some (.int .u32 a1_1) := (blk_cell BK173.out 1).trans rfl; have hcz65_2 : w62.cell? ⟨gb173, 2, none⟩ = some (.int .u32 a1_2) := (blk_cell BK173.out 2).trans rfl; have hcz65_3 : w62.cell? ⟨gb173, 3, none⟩ = some (.int .u32 a1_3) := (blk_cell BK173.out 3).trans rfl; have hfz65_0 := blk_frozen BK173.out 0; have hfz65_1 := blk_frozen BK173.out 1; have hfz65_2 := blk_frozen BK173.out 2; have hfz65_3 := blk_frozen BK173.out 3) | (go_at_call 12; (with_reducible refine (rect_Within.calls a0_0 a0_1 a0_2 a0_3 a1_0 a1_1 a1_2 a1_3 t187 _ A56.out).mono ?_); rintro e w66 ⟨rfl, hb⟩; replace BK172 := Aside0.mk (blk_below BK172.out hb); replace BK173 := Aside0.mk (blk_below BK173.out hb); replace BK174 := Aside0.mk (blk_below BK174.out hb); replace HB := Aside0.mk (below_step (by repeat (first | (with_reducible first | exact HB.out | apply below_alloc | apply pw_below_drewN | apply below_drew1 | refine below_set ?_ GE172.out | refine below_set ?_ GE173.out | refine below_set ?_ GE174.out) | exact HB.out)) hb); (try clear hb); (try clear hb2); (try clear hk); (try clear hi)))
       go_meet
       case rel => exact ⟨_, ((t187 != x7_24)), (by first | rfl | (simp; done) | (simp [*]; done)), H', ⟨by have := HJ24.out; first | omega | exact Nat.le_refl _⟩, ⟨by exact BK172.out⟩, ⟨by exact BK173.out⟩, ⟨by exact BK174.out⟩, ⟨by repeat (first | (with_reducible first | exact HB.out | apply below_alloc | apply pw_below_drewN | apply below_drew1 | refine below_set ?_ GE172.out | refine below_set ?_ GE173.out | refine below_set ?_ GE174.out) | exact HB.out)⟩⟩
      ·replace c55 := Bool.eq_false_iff.mpr c55
       subst c55
       have H1 : (counterpanelaw04_RectWhole.j1 kj24 true a0_0 a0_1 a0_2 a0_3 a1_0 a1_1 a1_2 a1_3 a2_0 a2_1 a2_2 a2_3) = some r := by rw [if_neg (show ¬ (false = true) by decide)] at H; exact H
       clear H
       have H := H1
       clear H1
       have H' := Aside0.mk H
       clear H
       have hnb67 := NB172_173.out
       have hnc67 := NB173_172.out
       have hnb68 := NB172_174.out
       have hnc68 := NB174_172.out
       have hcz69_0 : wc.cell? ⟨gb172, 0, none⟩ = some (.int .u32 a0_0) := (blk_cell BK172.out 0).trans rfl
       have hcz69_1 : wc.cell? ⟨gb172, 1, none⟩ = some (.int .u32 a0_1) := (blk_cell BK172.out 1).trans rfl
       have hcz69_2 : wc.cell? ⟨gb172, 2, none⟩ = some (.int .u32 a0_2) := (blk_cell BK172.out 2).trans rfl
       have hcz69_3 : wc.cell? ⟨gb172, 3, none⟩ = some (.int .u32 a0_3) := (blk_cell BK172.out 3).trans rfl
       have hfz69_0 := blk_frozen BK172.out 0
       have hfz69_1 := blk_frozen BK172.out 1
       have hfz69_2 := blk_frozen BK172.out 2
       have hfz69_3 := blk_frozen BK172.out 3
       go_wp2_with (first | ((with_reducible refine gate_callee (f := 6) rfl ?_); refine goesL_ (some 50) rfl rfl Try.func6 (by kernel_rfl) rfl #[.agg #[.int .u32 a0_0, .int .u32 a0_1, .int .u32 a0_2, .int .u32 a0_3], .int .u32 a0_0, .int .u32 a0_1] rfl (by (try simp only [List.map_toArray, List.map_cons, List.map_nil]); first | done | rfl | (simp only [List.length_drop, List.length_take]; rfl) | (simp; done)) ?_; (with_reducible refine (counterpaneref04_Has.calls a0_0 a0_1 a0_2 a0_3 a0_0 a0_1 true _ A52.out).mono ?_); rintro e w70 ⟨rfl, hb⟩; refine ⟨_, rfl, ?_⟩; replace BK172 := Aside0.mk (blk_below BK172.out hb); replace BK173 := Aside0.mk (blk_below BK173.out hb); replace BK174 := Aside0.mk (blk_below BK174.out hb); replace HB := Aside0.mk (below_step (by repeat (first | (with_reducible first | exact HB.out | apply below_alloc | apply pw_below_drewN | apply below_drew1 | refine below_set ?_ GE172.out | refine below_set ?_ GE173.out | refine below_set ?_ GE174.out) | exact HB.out)) hb); (try clear hb); (try clear hb2); (try clear hk); (try clear hi); have hcz71_0 : w70.cell? ⟨gb172, 0, none⟩ = some (.int .u32 a0_0) := (blk_cell BK172.out 0).trans rfl; have hcz71_1 : w70.cell? ⟨gb172, 1, none⟩ = some (.int .u32 a0_1) := (blk_cell BK172.out 1).trans rfl; have hcz71_2 : w70.cell? ⟨gb172, 2, none⟩ = some (.int .u32 a0_2) := (blk_cell BK172.out 2).trans rfl; have hcz71_3 : w70.cell? ⟨gb172, 3, none⟩ = some (.int .u32 a0_3) := (blk_cell BK172.out 3).trans rfl; have hfz71_0 := blk_frozen BK172.out 0; have hfz71_1 := blk_frozen BK172.out 1; have hfz71_2 := blk_frozen BK172.out 2; have hfz71_3 := blk_frozen BK172.out 3) | (go_at_call 6; (with_reducible refine (counterpaneref04_Has.calls a0_0 a0_1 a0_2 a0_3 a0_2 a0_3 false _ A54.out).mono ?_); rintro e w72 ⟨rfl, hb⟩; replace BK172 := Aside0.mk (blk_below BK172.out hb); replace BK173 := Aside0.mk (blk_below BK173.out hb); replace BK174 := Aside0.mk (blk_below BK174.out hb); replace HB := Aside0.mk (below_step (by repeat (first | (with_reducible first | exact HB.out | apply below_alloc | apply pw_below_drewN | apply below_drew1 | refine below_set ?_ GE172.out | refine below_set ?_ GE173.out | refine below_set ?_ GE174.out) | exact HB.out)) hb); (try clear hb); (try clear hb2); (try clear hk); (try clear hi)))
       go_meet
       case rel => exact ⟨_, (true), (by first | rfl | (simp; done) | (simp [*]; done)), H', ⟨by have := HJ24.out; first | omega | exact Nat.le_refl _⟩, ⟨by exact BK172.out⟩, ⟨by exact BK173.out⟩, ⟨by exact BK174.out⟩, ⟨by repeat (first | (with_reducible first | exact HB.out | apply below_alloc | apply pw_below_drewN | apply below_drew1 | refine below_set ?_ GE172.out | refine below_set ?_ GE173.out | refine below_set ?_ GE174.out) | exact HB.out)⟩⟩
     ·replace c53 := Bool.eq_false_iff.mpr c53
      subst c53
      have H1 : (counterpanelaw04_RectWhole.j1 kj24 true a0_0 a0_1 a0_2 a0_3 a1_0 a1_1 a1_2 a1_3 a2_0 a2_1 a2_2 a2_3) = some r := by rw [if_neg (show ¬ (false = true) by decide)] at H; exact H
      clear H
      have H := H1
      clear H1
      have H' := Aside0.mk H
      clear H
      have hnb73 := NB172_173.out
      have hnc73 := NB173_172.out
      have hnb74 := NB172_174.out
      have hnc74 := NB174_172.out
      have hcz75_0 : wc.cell? ⟨gb172, 0, none⟩ = some (.int .u32 a0_0) := (blk_cell BK172.out 0).trans rfl
      have hcz75_1 : wc.cell? ⟨gb172, 1, none⟩ = some (.int .u32 a0_1) := (blk_cell BK172.out 1).trans rfl
      have hcz75_2 : wc.cell? ⟨gb172, 2, none⟩ = some (.int .u32 a0_2) := (blk_cell BK172.out 2).trans rfl
      have hcz75_3 : wc.cell? ⟨gb172, 3, none⟩ = some (.int .u32 a0_3) := (blk_cell BK172.out 3).trans rfl
      have hfz75_0 := blk_frozen BK172.out 0
      have hfz75_1 := blk_frozen BK172.out 1
      have hfz75_2 := blk_frozen BK172.out 2
      have hfz75_3 := blk_frozen BK172.out 3
      go_wp2_with (first | ((with_reducible refine gate_callee (f := 6) rfl ?_); refine goesL_ (some 50) rfl rfl Try.func6 (by kernel_rfl) rfl #[.agg #[.int .u32 a0_0, .int .u32 a0_1, .int .u32 a0_2, .int .u32 a0_3], .int .u32 a0_0, .int .u32 a0_1] rfl (by (try simp only [List.map_toArray, List.map_cons, List.map_nil]); first | done | rfl | (simp only [List.length_drop, List.length_take]; rfl) | (simp; done)) ?_; (with_reducible refine (counterpaneref04_Has.calls a0_0 a0_1 a0_2 a0_3 a0_0 a0_1 false _ A52.out).mono ?_); rintro e w76 ⟨rfl, hb⟩; refine ⟨_, rfl, ?_⟩; replace BK172 := Aside0.mk (blk_below BK172.out hb); replace BK173 := Aside0.mk (blk_below BK173.out hb); replace BK174 := Aside0.mk (blk_below BK174.out hb); replace HB := Aside0.mk (below_step (by repeat (first | (with_reducible first | exact HB.out | apply below_alloc | apply pw_below_drewN | apply below_drew1 | refine below_set ?_ GE172.out | refine below_set ?_ GE173.out | refine below_set ?_ GE174.out) | exact HB.out)) hb); (try clear hb); (try clear hb2); (try clear hk); (try clear hi)))
      go_meet
      case rel => exact ⟨_, (true), (by first | rfl | (simp; done) | (simp [*]; done)), H', ⟨by have := HJ24.out; first | omega | exact Nat.le_refl _⟩, ⟨by exact BK172.out⟩, ⟨by exact BK173.out⟩, ⟨by exact BK174.out⟩, ⟨by repeat (first | (with_reducible first | exact HB.out | apply below_alloc | apply pw_below_drewN | apply below_drew1 | refine below_set ?_ GE172.out | refine below_set ?_ GE173.out | refine below_set ?_ GE174.out) | exact HB.out)⟩⟩
    case rest =>
     clear HC51
     try clear c1
     try clear c2
     try clear p2
     try clear c3
     try clear c4
     try clear c5
     try clear c6
     try clear c7
     try clear c9
     try clear c10
     try clear c11
     try clear c11b0
     try clear c11b1
     try clear c11b2
     try clear c12
     try clear c14
     try clear c16
     try clear c17
     try clear c29
     try clear c30
     try clear c34
     try clear c36
     try clear c37
     try clear c39
     try clear c45
     try clear c46
     try clear c48
     try clear c53
     try clear c55
     try clear c57
     try clear c58
     try clear c64
     try clear c67
     try clear c68
     try clear c73
     try clear c74
     try clear hcz18_0
     try clear hcz18_1
     try clear hcz18_2
     try clear hcz18_3
     try clear hcz31_0
     try clear hcz31_1
     try clear hcz31_2
     try clear hcz31_3
     try clear hcz38_0
     try clear hcz38_1
     try clear hcz38_2
     try clear hcz38_3
     try clear hcz40_0
     try clear hcz40_1
     try clear hcz40_2
     try clear hcz40_3
     try clear hcz42_0
     try clear hcz42_1
     try clear hcz42_2
     try clear hcz42_3
     try clear hcz43_0
     try clear hcz43_1
     try clear hcz43_2
     try clear hcz43_3
     try clear hcz47_0
     try clear hcz47_1
     try clear hcz47_2
     try clear hcz47_3
     try clear hcz49_0
     try clear hcz49_1
     try clear hcz49_2
     try clear hcz49_3
     try clear hcz59_0
     try clear hcz59_1
     try clear hcz59_2
     try clear hcz59_3
     try clear hcz61_0
     try clear hcz61_1
     try clear hcz61_2
     try clear hcz61_3
     try clear hcz63_0
     try clear hcz63_1
     try clear hcz63_2
     try clear hcz63_3
     try clear hcz65_0
     try clear hcz65_1
     try clear hcz65_2
     try clear hcz65_3
     try clear hcz69_0
     try clear hcz69_1
     try clear hcz69_2
     try clear hcz69_3
     try clear hcz71_0
     try clear hcz71_1
     try clear hcz71_2
     try clear hcz71_3
     try clear hcz75_0
     try clear hcz75_1
     try clear hcz75_2
     try clear hcz75_3
     try clear hfz18_0
     try clear hfz18_1
     try clear hfz18_2
     try clear hfz18_3
     try clear hfz31_0
     try clear hfz31_1
     try clear hfz31_2
     try clear hfz31_3
     try clear hfz38_0
     try clear hfz38_1
     try clear hfz38_2
     try clear hfz38_3
     try clear hfz40_0
     try clear hfz40_1
     try clear hfz40_2
     try clear hfz40_3
     try clear hfz42_0
     try clear hfz42_1
     try clear hfz42_2
     try clear hfz42_3
     try clear hfz43_0
     try clear hfz43_1
     try clear hfz43_2
     try clear hfz43_3
     try clear hfz47_0
     try clear hfz47_1
     try clear hfz47_2
     try clear hfz47_3
     try clear hfz49_0
     try clear hfz49_1
     try clear hfz49_2
     try clear hfz49_3
     try clear hfz59_0
     try clear hfz59_1
     try clear hfz59_2
     try clear hfz59_3
     try clear hfz61_0
     try clear hfz61_1
     try clear hfz61_2
     try clear hfz61_3
     try clear hfz63_0
     try clear hfz63_1
     try clear hfz63_2
     try clear hfz63_3
     try clear hfz65_0
     try clear hfz65_1
     try clear hfz65_2
     try clear hfz65_3
     try clear hfz69_0
     try clear hfz69_1
     try clear hfz69_2
     try clear hfz69_3
     try clear hfz71_0
     try clear hfz71_1
     try clear hfz71_2
     try clear hfz71_3
     try clear hfz75_0
     try clear hfz75_1
     try clear hfz75_2
     try clear hfz75_3
     try clear p2
     obtain ⟨kq, x67_50, rfl, HA, HJ50, BK172, BK173, BK174, HB⟩ := hcut
     cases kq with
     | zero => exact absurd HA.out (by simp [counterpanelaw04_RectWhole.j1])
     | succ kj50 =>
      have H := HA.out
      clear HA
      simp only [counterpanelaw04_RectWhole.j1] at H
      by_cases c77 : x67_50 = true
      ·subst c77
       have H1 : (none) = some r := by rw [if_pos rfl] at H; exact H
       clear H
       have H := H1
       clear H1
       exact absurd H (by simp)
      ·replace c77 := Bool.eq_false_iff.mpr c77
       subst c77
       have H1 : ((rect_Meet.f a0_0 a0_1 a0_2 a0_3 a1_0 a1_1 a1_2 a1_3).bind fun bt188 => ((rect_Meets.f a0_0 a0_1 a0_2 a0_3 a1_0 a1_1 a1_2 a1_3).bind fun t193 => ((rect_Empty.f a1_0 a1_1 a1_2 a1_3).bind fun t194 => (if t194 = true then (if (t193 != false) = true then (counterpanelaw04_RectWhole.j2 kj50 true a0_0 a0_1 a0_2 a0_3 a1_0 a1_1 a1_2 a1_3 a2_0 a2_1 a2_2 a2_3) else ((rect_Meets.f a0_0 a0_1 a0_2 a0_3 a1_0 a1_1 a1_2 a1_3).bind fun t195 => ((rect_Meets.f a1_0 a1_1 a1_2 a1_3 a0_0 a0_1 a0_2 a0_3).bind fun t196 => (counterpanelaw04_RectWhole.j2 kj50 (t195 != t196) a0_0 a0_1 a0_2 a0_3 a1_0 a1_1 a1_2 a1_3 a2_0 a2_1 a2_2 a2_3)))) else (if bt188.1 ≤ bt188.2.2.1 then (if (t193 != (decide (bt188.2.1 ≤ bt188.2.2.2))) = true then (counterpanelaw04_RectWhole.j2 kj50 true a0_0 a0_1 a0_2 a0_3 a1_0 a1_1 a1_2 a1_3 a2_0 a2_1 a2_2 a2_3) else ((rect_Meets.f a0_0 a0_1 a0_2 a0_3 a1_0 a1_1 a1_2 a1_3).bind fun t197 => ((rect_Meets.f a1_0 a1_1 a1_2 a1_3 a0_0 a0_1 a0_2 a0_3).bind fun t198 => (counterpanelaw04_RectWhole.j2 kj50 (t197 != t198) a0_0 a0_1 a0_2 a0_3 a1_0 a1_1 a1_2 a1_3 a2_0 a2_1 a2_2 a2_3)))) else (if (t193 != false) = true then (counterpanelaw04_RectWhole.j2 kj50 true a0_0 a0_1 a0_2 a0_3 a1_0 a1_1 a1_2 a1_3 a2_0 a2_1 a2_2 a2_3) else ((rect_Meets.f a0_0 a0_1 a0_2 a0_3 a1_0 a1_1 a1_2 a1_3).bind fun t199 => ((rect_Meets.f a1_0 a1_1 a1_2 a1_3 a0_0 a0_1 a0_2 a0_3).bind fun t200 => (counterpanelaw04_RectWhole.j2 kj50 (t199 != t200) a0_0 a0_1 a0_2 a0_3 a1_0 a1_1 a1_2 a1_3 a2_0 a2_1 a2_2 a2_3))))))))) = some r := by rw [if_neg (show ¬ (false = true) by decide)] at H; exact H
       clear H
       have H := H1
       clear H1
       replace H := Option.bind_eq_some_iff.mp H
       obtain ⟨⟨t188, t189, t190, t191⟩, A780, H⟩ := H
       replace H : ((rect_Meets.f a0_0 a0_1 a0_2 a0_3 a1_0 a1_1 a1_2 a1_3).bind fun t193 => ((rect_Empty.f a1_0 a1_1 a1_2 a1_3).bind fun t194 => (if t194 = true then (if (t193 != false) = true then (counterpanelaw04_RectWhole.j2 kj50 true a0_0 a0_1 a0_2 a0_3 a1_0 a1_1 a1_2 a1_3 a2_0 a2_1 a2_2 a2_3) else ((rect_Meets.f a0_0 a0_1 a0_2 a0_3 a1_0 a1_1 a1_2 a1_3).bind fun t195 => ((rect_Meets.f a1_0 a1_1 a1_2 a1_3 a0_0 a0_1 a0_2 a0_3).bind fun t196 => (counterpanelaw04_RectWhole.j2 kj50 (t195 != t196) a0_0 a0_1 a0_2 a0_3 a1_0 a1_1 a1_2 a1_3 a2_0 a2_1 a2_2 a2_3)))) else (if t188 ≤ t190 then (if (t193 != (decide (t189 ≤ t191))) = true then (counterpanelaw04_RectWhole.j2 kj50 true a0_0 a0_1 a0_2 a0_3 a1_0 a1_1 a1_2 a1_3 a2_0 a2_1 a2_2 a2_3) else ((rect_Meets.f a0_0 a0_1 a0_2 a0_3 a1_0 a1_1 a1_2 a1_3).bind fun t197 => ((rect_Meets.f a1_0 a1_1 a1_2 a1_3 a0_0 a0_1 a0_2 a0_3).bind fun t198 => (counterpanelaw04_RectWhole.j2 kj50 (t197 != t198) a0_0 a0_1 a0_2 a0_3 a1_0 a1_1 a1_2 a1_3 a2_0 a2_1 a2_2 a2_3)))) else (if (t193 != false) = true then (counterpanelaw04_RectWhole.j2 kj50 true a0_0 a0_1 a0_2 a0_3 a1_0 a1_1 a1_2 a1_3 a2_0 a2_1 a2_2 a2_3) else ((rect_Meets.f a0_0 a0_1 a0_2 a0_3 a1_0 a1_1 a1_2 a1_3).bind fun t199 => ((rect_Meets.f a1_0 a1_1 a1_2 a1_3 a0_0 a0_1 a0_2 a0_3).bind fun t200 => (counterpanelaw04_RectWhole.j2 kj50 (t199 != t200) a0_0 a0_1 a0_2 a0_3 a1_0 a1_1 a1_2 a1_3 a2_0 a2_1 a2_2 a2_3)))))))) = some r := H
       have A78 := Aside0.mk A780
       clear A780
       have HC79 := Aside0.mk H
       clear H
       have hnb80 := NB172_173.out
       have hnc80 := NB173_172.out
       have hnb81 := NB172_174.out
       have hnc81 := NB174_172.out
       have hcz82_0 : wc.cell? ⟨gb172, 0, none⟩ = some (.int .u32 a0_0) := (blk_cell BK172.out 0).trans rfl
       have hcz82_1 : wc.cell? ⟨gb172, 1, none⟩ = some (.int .u32 a0_1) := (blk_cell BK172.out 1).trans rfl
       have hcz82_2 : wc.cell? ⟨gb172, 2, none⟩ = some (.int .u32 a0_2) := (blk_cell BK172.out 2).trans rfl
       have hcz82_3 : wc.cell? ⟨gb172, 3, none⟩ = some (.int .u32 a0_3) := (blk_cell BK172.out 3).trans rfl
       have hfz82_0 := blk_frozen BK172.out 0
       have hfz82_1 := blk_frozen BK172.out 1
       have hfz82_2 := blk_frozen BK172.out 2
       have hfz82_3 := blk_frozen BK172.out 3
       have hnb83 := NB173_174.out
       have hnc83 := NB174_173.out
       have hcz84_0 : wc.cell? ⟨gb173, 0, none⟩ = some (.int .u32 a1_0) := (blk_cell BK173.out 0).trans rfl
       have hcz84_1 : wc.cell? ⟨gb173, 1, none⟩ = some (.int .u32 a1_1) := (blk_cell BK173.out 1).trans rfl
       have hcz84_2 : wc.cell? ⟨gb173, 2, none⟩ = some (.int .u32 a1_2) := (blk_cell BK173.out 2).trans rfl
       have hcz84_3 : wc.cell? ⟨gb173, 3, none⟩ = some (.int .u32 a1_3) := (blk_cell BK173.out 3).trans rfl
       have hfz84_0 := blk_frozen BK173.out 0
       have hfz84_1 := blk_frozen BK173.out 1
       have hfz84_2 := blk_frozen BK173.out 2
       have hfz84_3 := blk_frozen BK173.out 3
       go_upto_region 7 with (first | ((with_reducible refine gate_callee (f := 8) rfl ?_); refine goesL_ (some 70) rfl rfl Try.func8 (by kernel_rfl) rfl #[.agg #[.int .u32 a0_0, .int .u32 a0_1, .int .u32 a0_2, .int .u32 a0_3], .agg #[.int .u32 a1_0, .int .u32 a1_1, .int .u32 a1_2, .int .u32 a1_3]] rfl (by (try simp only [List.map_toArray, List.map_cons, List.map_nil]); first | done | rfl | (simp only [List.length_drop, List.length_take]; rfl) | (simp; done)) ?_; (with_reducible refine (rect_Meet.calls a0_0 a0_1 a0_2 a0_3 a1_0 a1_1 a1_2 a1_3 t188 t189 t190 t191 _ A78.out).mono ?_); rintro e w85 ⟨rfl, hb⟩; refine ⟨_, rfl, ?_⟩; replace BK172 := Aside0.mk (blk_below BK172.out hb); replace BK173 := Aside0.mk (blk_below BK173.out hb); replace BK174 := Aside0.mk (blk_below BK174.out hb); replace HB := Aside0.mk (below_step (by repeat (first | (with_reducible first | exact HB.out | apply below_alloc | apply pw_below_drewN | apply below_drew1 | refine below_set ?_ GE172.out | refine below_set ?_ GE173.out | refine below_set ?_ GE174.out) | exact HB.out)) hb); (try clear hb); (try clear hb2); (try clear hk); (try clear hi)) | ((with_reducible refine gate_dst (N := 8) rfl ?_); refine box_event ?hg (N := 8) ?hd (cs := #[.int .u32 0, .int .u32 0, .int .u32 0, .int .u32 0]) (t := 24) ?hr ?_; (case hd => rfl); (case hg => rfl); (case hr => first | (go_simp; done) | (go_simp; rfl)); intro gb192 hg w86 hbox hb; have n0_ := Aside0.mk (blk_below BK172.out hb); have n1_ := Aside0.mk (blk_below BK173.out hb); have n2_ := Aside0.mk (blk_below BK174.out hb); have n3_ := Aside0.mk (below_step (by repeat (first | (with_reducible first | exact HB.out | apply below_alloc | apply pw_below_drewN | apply below_drew1 | refine below_set ?_ GE172.out | refine below_set ?_ GE173.out | refine below_set ?_ GE174.out) | exact HB.out)) hb); have n4_ := Aside0.mk (hbox); have n5_ := Aside0.mk ((by rw [hg]; exact (below_size (by repeat (first | (with_reducible first | exact HB.out | apply below_alloc | apply pw_below_drewN | apply below_drew1 | refine below_set ?_ GE172.out | refine below_set ?_ GE173.out | refine below_set ?_ GE174.out) | exact HB.out))) : w.heap.size ≤ gb192)); have n6_ := Aside0.mk ((by rw [hg]; exact (below_size (by repeat (first | (with_reducible first | exact HB.out | apply below_alloc | apply pw_below_drewN | apply below_drew1 | refine below_set ?_ GE172.out | refine below_set ?_ GE173.out | refine below_set ?_ GE174.out) | exact HB.out))) : w.heap.size ≤ gb192)); have n7_ := Aside0.mk ((by rw [hg]; exact Nat.ne_of_lt (blk_lt BK172.out) : gb172 ≠ gb192)); have n8_ := Aside0.mk ((by rw [hg]; exact Nat.ne_of_gt (blk_lt BK172.out) : gb192 ≠ gb172)); have n9_ := Aside0.mk ((by rw [hg]; exact Nat.ne_of_lt (blk_lt BK173.out) : gb173 ≠ gb192)); have n10_ := Aside0.mk ((by rw [hg]; exact Nat.ne_of_gt (blk_lt BK173.out) : gb192 ≠ gb173)); have n11_ := Aside0.mk ((by rw [hg]; exact Nat.ne_of_lt (blk_lt BK174.out) : gb174 ≠ gb192)); have n12_ := Aside0.mk ((by rw [hg]; exact Nat.ne_of_gt (blk_lt BK174.out) : gb192 ≠ gb174)); clear BK172; clear BK173; clear BK174; clear HB; have BK172 := n0_; have BK173 := n1_; have BK174 := n2_; have HB := n3_; have BK192 := n4_; have GW192 := n5_; have GE192 := n6_; have NB172_192 := n7_; have NB192_172 := n8_; have NB173_192 := n9_; have NB192_173 := n10_; have NB174_192 := n11_; have NB192_174 := n12_; clear n0_ n1_ n2_ n3_ n4_ n5_ n6_ n7_ n8_ n9_ n10_ n11_ n12_; clear hb hbox hg; have hnb87 := NB192_172.out; have hnc87 := NB172_192.out; have hnb88 := NB192_173.out; have hnc88 := NB173_192.out; have hnb89 := NB192_174.out; have hnc89 := NB174_192.out; have hcz90_0 : w86.cell? ⟨gb192, 0, none⟩ = some (.int .u32 0) := (blk_cell BK192.out 0).trans rfl; have hcz90_1 : w86.cell? ⟨gb192, 1, none⟩ = some (.int .u32 0) := (blk_cell BK192.out 1).trans rfl; have hcz90_2 : w86.cell? ⟨gb192, 2, none⟩ = some (.int .u32 0) := (blk_cell BK192.out 2).trans rfl; have hcz90_3 : w86.cell? ⟨gb192, 3, none⟩ = some (.int .u32 0) := (blk_cell BK192.out 3).trans rfl; have hfz90_0 := blk_frozen BK192.out 0; have hfz90_1 := blk_frozen BK192.out 1; have hfz90_2 := blk_frozen BK192.out 2; have hfz90_3 := blk_frozen BK192.out 3))
       (try simp only [Act.put, List.setIfInBounds_toArray, List.set_cons_zero, List.set_cons_succ])
       go_cut [100] (fun v100 wc => ∃ (kq : Nat) (x100_78 : Bool), v100 = .bool x100_78 ∧ Aside0 (counterpanelaw04_RectWhole.j2 kq x100_78 a0_0 a0_1 a0_2 a0_3 a1_0 a1_1 a1_2 a1_3 a2_0 a2_1 a2_2 a2_3 = some r) ∧ Aside0 (kq ≤ kj50) ∧ Aside0 (wc.heap[gb172]? = some (.cells #[.int .u32 a0_0, .int .u32 a0_1, .int .u32 a0_2, .int .u32 a0_3] 24 (0, 0))) ∧ Aside0 (wc.heap[gb173]? = some (.cells #[.int .u32 a1_0, .int .u32 a1_1, .int .u32 a1_2, .int .u32 a1_3] 24 (0, 0))) ∧ Aside0 (wc.heap[gb174]? = some (.cells #[.int .u32 a2_0, .int .u32 a2_1, .int .u32 a2_2, .int .u32 a2_3] 24 (0, 0))) ∧ Aside0 (wc.heap[gb192]? = some (.cells #[.int .u32 t188, .int .u32 t189, .int .u32 t190, .int .u32 t191] 24 (0, 0))) ∧ Aside0 (Below w.heap.size w wc))
       case first =>
        have H := HC79.out
        clear HC79
        replace H := Option.bind_eq_some_iff.mp H
        obtain ⟨t193, A910, H⟩ := H
        replace H : ((rect_Empty.f a1_0 a1_1 a1_2 a1_3).bind fun t194 => (if t194 = true then (if (t193 != false) = true then (counterpanelaw04_RectWhole.j2 kj50 true a0_0 a0_1 a0_2 a0_3 a1_0 a1_1 a1_2 a1_3 a2_0 a2_1 a2_2 a2_3) else ((rect_Meets.f a0_0 a0_1 a0_2 a0_3 a1_0 a1_1 a1_2 a1_3).bind fun t195 => ((rect_Meets.f a1_0 a1_1 a1_2 a1_3 a0_0 a0_1 a0_2 a0_3).bind fun t196 => (counterpanelaw04_RectWhole.j2 kj50 (t195 != t196) a0_0 a0_1 a0_2 a0_3 a1_0 a1_1 a1_2 a1_3 a2_0 a2_1 a2_2 a2_3)))) else (if t188 ≤ t190 then (if (t193 != (decide (t189 ≤ t191))) = true then (counterpanelaw04_RectWhole.j2 kj50 true a0_0 a0_1 a0_2 a0_3 a1_0 a1_1 a1_2 a1_3 a2_0 a2_1 a2_2 a2_3) else ((rect_Meets.f a0_0 a0_1 a0_2 a0_3 a1_0 a1_1 a1_2 a1_3).bind fun t197 => ((rect_Meets.f a1_0 a1_1 a1_2 a1_3 a0_0 a0_1 a0_2 a0_3).bind fun t198 => (counterpanelaw04_RectWhole.j2 kj50 (t197 != t198) a0_0 a0_1 a0_2 a0_3 a1_0 a1_1 a1_2 a1_3 a2_0 a2_1 a2_2 a2_3)))) else (if (t193 != false) = true then (counterpanelaw04_RectWhole.j2 kj50 true a0_0 a0_1 a0_2 a0_3 a1_0 a1_1 a1_2 a1_3 a2_0 a2_1 a2_2 a2_3) else ((rect_Meets.f a0_0 a0_1 a0_2 a0_3 a1_0 a1_1 a1_2 a1_3).bind fun t199 => ((rect_Meets.f a1_0 a1_1 a1_2 a1_3 a0_0 a0_1 a0_2 a0_3).bind fun t200 => (counterpanelaw04_RectWhole.j2 kj50 (t199 != t200) a0_0 a0_1 a0_2 a0_3 a1_0 a1_1 a1_2 a1_3 a2_0 a2_1 a2_2 a2_3))))))) = some r := H
        have A91 := Aside0.mk A910
        clear A910
        replace H := Option.bind_eq_some_iff.mp H
        obtain ⟨t194, A920, H⟩ := H
        replace H : (if t194 = true then (if (t193 != false) = true then (counterpanelaw04_RectWhole.j2 kj50 true a0_0 a0_1 a0_2 a0_3 a1_0 a1_1 a1_2 a1_3 a2_0 a2_1 a2_2 a2_3) else ((rect_Meets.f a0_0 a0_1 a0_2 a0_3 a1_0 a1_1 a1_2 a1_3).bind fun t195 => ((rect_Meets.f a1_0 a1_1 a1_2 a1_3 a0_0 a0_1 a0_2 a0_3).bind fun t196 => (counterpanelaw04_RectWhole.j2 kj50 (t195 != t196) a0_0 a0_1 a0_2 a0_3 a1_0 a1_1 a1_2 a1_3 a2_0 a2_1 a2_2 a2_3)))) else (if t188 ≤ t190 then (if (t193 != (decide (t189 ≤ t191))) = true then (counterpanelaw04_RectWhole.j2 kj50 true a0_0 a0_1 a0_2 a0_3 a1_0 a1_1 a1_2 a1_3 a2_0 a2_1 a2_2 a2_3) else ((rect_Meets.f a0_0 a0_1 a0_2 a0_3 a1_0 a1_1 a1_2 a1_3).bind fun t197 => ((rect_Meets.f a1_0 a1_1 a1_2 a1_3 a0_0 a0_1 a0_2 a0_3).bind fun t198 => (counterpanelaw04_RectWhole.j2 kj50 (t197 != t198) a0_0 a0_1 a0_2 a0_3 a1_0 a1_1 a1_2 a1_3 a2_0 a2_1 a2_2 a2_3)))) else (if (t193 != false) = true then (counterpanelaw04_RectWhole.j2 kj50 true a0_0 a0_1 a0_2 a0_3 a1_0 a1_1 a1_2 a1_3 a2_0 a2_1 a2_2 a2_3) else ((rect_Meets.f a0_0 a0_1 a0_2 a0_3 a1_0 a1_1 a1_2 a1_3).bind fun t199 => ((rect_Meets.f a1_0 a1_1 a1_2 a1_3 a0_0 a0_1 a0_2 a0_3).bind fun t200 => (counterpanelaw04_RectWhole.j2 kj50 (t199 != t200) a0_0 a0_1 a0_2 a0_3 a1_0 a1_1 a1_2 a1_3 a2_0 a2_1 a2_2 a2_3)))))) = some r := H
        have A92 := Aside0.mk A920
        clear A920
        by_cases c93 : t194 = true
        ·subst c93
         have H1 : (if (t193 != false) = true then (counterpanelaw04_RectWhole.j2 kj50 true a0_0 a0_1 a0_2 a0_3 a1_0 a1_1 a1_2 a1_3 a2_0 a2_1 a2_2 a2_3) else ((rect_Meets.f a0_0 a0_1 a0_2 a0_3 a1_0 a1_1 a1_2 a1_3).bind fun t195 => ((rect_Meets.f a1_0 a1_1 a1_2 a1_3 a0_0 a0_1 a0_2 a0_3).bind fun t196 => (counterpanelaw04_RectWhole.j2 kj50 (t195 != t196) a0_0 a0_1 a0_2 a0_3 a1_0 a1_1 a1_2 a1_3 a2_0 a2_1 a2_2 a2_3)))) = some r := by rw [if_pos rfl] at H; exact H
         clear H
         have H := H1
         clear H1
         by_cases c94 : (t193 != false) = true
         ·rw [if_pos c94] at H
          have c94b0 : (t193 != false) = true := c94
          (try (have c94b1 : decide (t193 = false) = false := by simpa using c94))
          (try (have c94b2 : (t193 == false) = false := by simpa using c94))
          (try (have c94b3 : ¬ (t193 = false) := by simpa using c94))
          clear c94
          (first | rw [c94b0] | (simp only [i64_w, i32_w]; rw [c94b0]) | skip)
          have H' := Aside0.mk H
          clear H
          try go_wp2
          have n0_ : Aside0 (((((w86.setCell ⟨gb192, 0, none⟩ (.int .u32 t188)).setCell ⟨gb192, 1, none⟩ (.int .u32 t189)).setCell ⟨gb192, 2, none⟩ (.int .u32 t190)).setCell ⟨gb192, 3, none⟩ (.int .u32 t191)).heap[gb172]? = some (.cells #[.int .u32 a0_0, .int .u32 a0_1, .int .u32 a0_2, .int .u32 a0_3] 24 (0, 0))) := ⟨by refine blk_far ?_ NB172_192.out _; refine blk_far ?_ NB172_192.out _; refine blk_far ?_ NB172_192.out _; refine blk_far ?_ NB172_192.out _; exact BK172.out⟩
          have n1_ : Aside0 (((((w86.setCell ⟨gb192, 0, none⟩ (.int .u32 t188)).setCell ⟨gb192, 1, none⟩ (.int .u32 t189)).setCell ⟨gb192, 2, none⟩ (.int .u32 t190)).setCell ⟨gb192, 3, none⟩ (.int .u32 t191)).heap[gb173]? = some (.cells #[.int .u32 a1_0, .int .u32 a1_1, .int .u32 a1_2, .int .u32 a1_3] 24 (0, 0))) := ⟨by refine blk_far ?_ NB173_192.out _; refine blk_far ?_ NB173_192.out _; refine blk_far ?_ NB173_192.out _; refine blk_far ?_ NB173_192.out _; exact BK173.out⟩
          have n2_ : Aside0 (((((w86.setCell ⟨gb192, 0, none⟩ (.int .u32 t188)).setCell ⟨gb192, 1, none⟩ (.int .u32 t189)).setCell ⟨gb192, 2, none⟩ (.int .u32 t190)).setCell ⟨gb192, 3, none⟩ (.int .u32 t191)).heap[gb174]? = some (.cells #[.int .u32 a2_0, .int .u32 a2_1, .int .u32 a2_2, .int .u32 a2_3] 24 (0, 0))) := ⟨by refine blk_far ?_ NB174_192.out _; refine blk_far ?_ NB174_192.out _; refine blk_far ?_ NB174_192.out _; refine blk_far ?_ NB174_192.out _; exact BK174.out⟩
          have n3_ : Aside0 (((((w86.setCell ⟨gb192, 0, none⟩ (.int .u32 t188)).setCell ⟨gb192, 1, none⟩ (.int .u32 t189)).setCell ⟨gb192, 2, none⟩ (.int .u32 t190)).setCell ⟨gb192, 3, none⟩ (.int .u32 t191)).heap[gb192]? = some (.cells #[.int .u32 t188, .int .u32 t189, .int .u32 t190, .int .u32 t191] 24 (0, 0))) := ⟨by refine blk_put (cs := #[.int .u32 t188, .int .u32 t189, .int .u32 t190, .int .u32 0]) ?_ 3 _ (by first | rfl | simp); refine blk_put (cs := #[.int .u32 t188, .int .u32 t189, .int .u32 0, .int .u32 0]) ?_ 2 _ (by first | rfl | simp); refine blk_put (cs := #[.int .u32 t188, .int .u32 0, .int .u32 0, .int .u32 0]) ?_ 1 _ (by first | rfl | simp); refine blk_put (cs := #[.int .u32 0, .int .u32 0, .int .u32 0, .int .u32 0]) ?_ 0 _ (by first | rfl | simp); exact BK192.out⟩
          have n4_ : Aside0 (Below w.heap.size w ((((w86.setCell ⟨gb192, 0, none⟩ (.int .u32 t188)).setCell ⟨gb192, 1, none⟩ (.int .u32 t189)).setCell ⟨gb192, 2, none⟩ (.int .u32 t190)).setCell ⟨gb192, 3, none⟩ (.int .u32 t191))) := ⟨by repeat (first | (with_reducible first | exact HB.out | apply below_alloc | apply pw_below_drewN | apply below_drew1 | refine below_set ?_ GE172.out | refine below_set ?_ GE173.out | refine below_set ?_ GE174.out | refine below_set ?_ GE192.out) | exact HB.out)⟩
          (try clear BK172)
          (try clear BK173)
          (try clear BK174)
          (try clear BK192)
          (try clear HB)
          generalize ((((w86.setCell ⟨gb192, 0, none⟩ (.int .u32 t188)).setCell ⟨gb192, 1, none⟩ (.int .u32 t189)).setCell ⟨gb192, 2, none⟩ (.int .u32 t190)).setCell ⟨gb192, 3, none⟩ (.int .u32 t191)) = w95 at n0_ n1_ n2_ n3_ n4_ ⊢
          have BK172 := n0_
          have BK173 := n1_
          have BK174 := n2_
          have BK192 := n3_
          have HB := n4_
          clear n0_ n1_ n2_ n3_ n4_
          replace BK172 := Aside0.mk (blk_drew BK172.out)
          replace BK173 := Aside0.mk (blk_drew BK173.out)
          replace BK174 := Aside0.mk (blk_drew BK174.out)
          replace BK192 := Aside0.mk (blk_drew BK192.out)
          replace HB := Aside0.mk (below_drew1 HB.out)
          refine start_ (n := 30) (S := fun w' => w'.cell? ⟨gb172, 0, none⟩ = some (.int .u32 a0_0) ∧ w'.cell? ⟨gb172, 1, none⟩ = some (.int .u32 a0_1) ∧ w'.cell? ⟨gb172, 2, none⟩ = some (.int .u32 a0_2) ∧ w'.cell? ⟨gb172, 3, none⟩ = some (.int .u32 a0_3) ∧ w'.cell? ⟨gb173, 0, none⟩ = some (.int .u32 a1_0) ∧ w'.cell? ⟨gb173, 1, none⟩ = some (.int .u32 a1_1) ∧ w'.cell? ⟨gb173, 2, none⟩ = some (.int .u32 a1_2) ∧ w'.cell? ⟨gb173, 3, none⟩ = some (.int .u32 a1_3)) (ds := []) #[F_,F_,F_,F_,F_,F_,F_,F_,F_,F_,F_,F_,F_,F_,F_,F_,F_,F_,F_,F_,F_,F_,F_,F_,F_,F_,F_,F_,F_,F_] (by kernel_rfl) rfl rfl ⟨(blk_cell BK172.out 0).trans rfl, (blk_cell BK172.out 1).trans rfl, (blk_cell BK172.out 2).trans rfl, (blk_cell BK172.out 3).trans rfl, (blk_cell BK173.out 0).trans rfl, (blk_cell BK173.out 1).trans rfl, (blk_cell BK173.out 2).trans rfl, (blk_cell BK173.out 3).trans rfl⟩ (fun hHeld => ?_); refine with_tabW counterpanelaw04_RectWhole.tab7 counterpanelaw04_RectWhole.bits7 (fun HT_ HW_ => ?_)
          generalize w95.drew = w96 at BK172 BK173 BK174 BK192 HB hHeld ⊢
          refine take_ (i := 0) (N := some 71) (v := ?_) (a' := ?_) #[T_,F_,F_,F_,F_,F_,F_,F_,F_,F_,F_,F_,F_,F_,F_,F_,F_,F_,F_,F_,F_,F_,F_,F_,F_,F_,F_,F_,F_,F_] rfl rfl (take_ofW HT_.out HW_.out (by kernel_rfl)) (fun _ _ _ h => h) (Or.inl ⟨by rfl, ?_⟩) hHeld ?_ ?_
          rotate_left; (rintro w' ⟨s0, s1, s2, s3, s4, s5, s6, s7⟩; go_simp; with_reducible rfl); rotate_left; (simp only [put_]; rfl)
          refine take_ (i := 1) (N := some 72) (v := ?_) (a' := ?_) #[T_,T_,F_,F_,F_,F_,F_,F_,F_,F_,F_,F_,F_,F_,F_,F_,F_,F_,F_,F_,F_,F_,F_,F_,F_,F_,F_,F_,F_,F_] rfl rfl (take_ofW HT_.out HW_.out (by kernel_rfl)) (fun _ _ _ h => h) (Or.inl ⟨by rfl, ?_⟩) hHeld ?_ ?_
          rotate_left; (rintro w' ⟨s0, s1, s2, s3, s4, s5, s6, s7⟩; go_simp; with_reducible rfl); rotate_left; (simp only [put_]; rfl)
          refine take_ (i := 3) (N := some 74) (v := ?_) (a' := ?_) #[T_,T_,F_,T_,F_,F_,F_,F_,F_,F_,F_,F_,F_,F_,F_,F_,F_,F_,F_,F_,F_,F_,F_,F_,F_,F_,F_,F_,F_,F_] rfl rfl (take_ofW HT_.out HW_.out (by kernel_rfl)) (fun _ _ _ h => h) (Or.inl ⟨by rfl, ?_⟩) hHeld ?_ ?_
          rotate_left; (rintro w' ⟨s0, s1, s2, s3, s4, s5, s6, s7⟩; go_simp; with_reducible rfl); rotate_left; (simp only [put_]; rfl)
          refine one_ (i := 2) (N := some 73) #[T_,T_,T_,T_,F_,F_,F_,F_,F_,F_,F_,F_,F_,F_,F_,F_,F_,F_,F_,F_,F_,F_,F_,F_,F_,F_,F_,F_,F_,F_] rfl rfl (one_of HT_.out (by kernel_rfl)) (by decide) (fun K hK => ?_)
          refine goes_ Try.func11 (by kernel_rfl) rfl #[.agg #[.int .u32 a0_0, .int .u32 a0_1, .int .u32 a0_2, .int .u32 a0_3], .agg #[.int .u32 a1_0, .int .u32 a1_1, .int .u32 a1_2, .int .u32 a1_3]] (by rfl) rfl rfl (by (try simp only [List.map_toArray, List.map_cons, List.map_nil]); first | done | rfl | (simp only [List.length_drop, List.length_take]; rfl) | (simp; done)) ?_
          with_reducible refine (rect_Meets.calls a0_0 a0_1 a0_2 a0_3 a1_0 a1_1 a1_2 a1_3 t193 _ A91.out).mono ?_
          rintro e w97 ⟨rfl, hb⟩
          refine ⟨_, rfl, ?_⟩
          replace BK172 := Aside0.mk (blk_below BK172.out hb)
          replace BK173 := Aside0.mk (blk_below BK173.out hb)
          replace BK174 := Aside0.mk (blk_below BK174.out hb)
          replace BK192 := Aside0.mk (blk_below BK192.out hb)
          replace HB := Aside0.mk (below_step (by repeat (first | (with_reducible first | exact HB.out | apply below_alloc | apply pw_below_drewN | apply below_drew1 | refine below_set ?_ GE172.out | refine below_set ?_ GE173.out | refine below_set ?_ GE174.out | refine below_set ?_ GE192.out) | exact HB.out)) hb)
          refine hK.out _ _ ⟨(blk_cell BK172.out 0).trans rfl, (blk_cell BK172.out 1).trans rfl, (blk_cell BK172.out 2).trans rfl, (blk_cell BK172.out 3).trans rfl, (blk_cell BK173.out 0).trans rfl, (blk_cell BK173.out 1).trans rfl, (blk_cell BK173.out 2).trans rfl, (blk_cell BK173.out 3).trans rfl⟩ (fun hHeld => ?_)
          clear hK K
          refine norm_ (a' := ?_) ?_ ?_
          rotate_left
          ·show Act.put _ (some 73) _ = _
           simp only [put_]
           rfl
          refine one_ (i := 4) (N := some 75) #[T_,T_,T_,T_,T_,F_,F_,F_,F_,F_,F_,F_,F_,F_,F_,F_,F_,F_,F_,F_,F_,F_,F_,F_,F_,F_,F_,F_,F_,F_] rfl rfl (one_of HT_.out (by kernel_rfl)) (by decide) (fun K hK => ?_)
          refine goes_ Try.func10 (by kernel_rfl) rfl #[.agg #[.int .u32 a1_0, .int .u32 a1_1, .int .u32 a1_2, .int .u32 a1_3]] (by rfl) rfl rfl (by (try simp only [List.map_toArray, List.map_cons, List.map_nil]); first | done | rfl | (simp only [List.length_drop, List.length_take]; rfl) | (simp; done)) ?_
          with_reducible refine (rect_Empty.calls a1_0 a1_1 a1_2 a1_3 true _ A92.out).mono ?_
          rintro e w98 ⟨rfl, hb⟩
          refine ⟨_, rfl, ?_⟩
          replace BK172 := Aside0.mk (blk_below BK172.out hb)
          replace BK173 := Aside0.mk (blk_below BK173.out hb)
          replace BK174 := Aside0.mk (blk_below BK174.out hb)
          replace BK192 := Aside0.mk (blk_below BK192.out hb)
          replace HB := Aside0.mk (below_step (by repeat (first | (with_reducible first | exact HB.out | apply below_alloc | apply pw_below_drewN | apply below_drew1 | refine below_set ?_ GE172.out | refine below_set ?_ GE173.out | refine below_set ?_ GE174.out | refine below_set ?_ GE192.out) | exact HB.out)) hb)
          refine hK.out _ _ ⟨(blk_cell BK172.out 0).trans rfl, (blk_cell BK172.out 1).trans rfl, (blk_cell BK172.out 2).trans rfl, (blk_cell BK172.out 3).trans rfl, (blk_cell BK173.out 0).trans rfl, (blk_cell BK173.out 1).trans rfl, (blk_cell BK173.out 2).trans rfl, (blk_cell BK173.out 3).trans rfl⟩ (fun hHeld => ?_)
          clear hK K
          refine norm_ (a' := ?_) ?_ ?_
          rotate_left
          ·show Act.put _ (some 75) _ = _
           simp only [put_]
           rfl
          refine pure_ (i := 5) (N := some 76) (v := ?_) (a' := ?_) #[T_,T_,T_,T_,T_,T_,F_,F_,F_,F_,F_,F_,F_,F_,F_,F_,F_,F_,F_,F_,F_,F_,F_,F_,F_,F_,F_,F_,F_,F_] rfl rfl (any_of HT_.out (by kernel_rfl)) (fun _ _ _ h => h) (Or.inl ⟨by rfl, ?_⟩) ?_ ?_
          rotate_left; (intro w'; go_simp; with_reducible rfl); rotate_left; (simp only [put_]; rfl)
          refine pure_ (i := 6) (N := some 77) (v := ?_) (a' := ?_) #[T_,T_,T_,T_,T_,T_,T_,F_,F_,F_,F_,F_,F_,F_,F_,F_,F_,F_,F_,F_,F_,F_,F_,F_,F_,F_,F_,F_,F_,F_] rfl rfl (any_of HT_.out (by kernel_rfl)) (fun _ _ _ h => h) (Or.inl ⟨by rfl, ?_⟩) ?_ ?_
          rotate_left; (intro w'; go_simp; with_reducible rfl); rotate_left; (simp only [put_]; rfl)
          refine pure_ (i := 7) (N := some 78) (v := undef) (a' := ?_) #[T_,T_,T_,T_,T_,T_,T_,T_,F_,F_,F_,F_,F_,F_,F_,F_,F_,F_,F_,F_,F_,F_,F_,F_,F_,F_,F_,F_,F_,F_] rfl rfl (any_of HT_.out (by kernel_rfl)) (fun _ _ _ h => h) (Or.inr ⟨by rfl, rfl⟩) ?_ ?_
          rotate_left
          ·simp only [put_]
           rfl
          refine pure_ (i := 8) (N := some 79) (v := undef) (a' := ?_) #[T_,T_,T_,T_,T_,T_,T_,T_,T_,F_,F_,F_,F_,F_,F_,F_,F_,F_,F_,F_,F_,F_,F_,F_,F_,F_,F_,F_,F_,F_] rfl rfl (any_of HT_.out (by kernel_rfl)) (fun _ _ _ h => h) (Or.inr ⟨by rfl, rfl⟩) ?_ ?_
          rotate_left
          ·simp only [put_]
           rfl
          refine pure_ (i := 9) (N := some 80) (v := undef) (a' := ?_) #[T_,T_,T_,T_,T_,T_,T_,T_,T_,T_,F_,F_,F_,F_,F_,F_,F_,F_,F_,F_,F_,F_,F_,F_,F_,F_,F_,F_,F_,F_] rfl rfl (any_of HT_.out (by kernel_rfl)) (fun _ _ _ h => h) (Or.inr ⟨by rfl, rfl⟩) ?_ ?_
          rotate_left
          ·simp only [put_]
           rfl
          refine pure_ (i := 10) (N := some 81) (v := undef) (a' := ?_) #[T_,T_,T_,T_,T_,T_,T_,T_,T_,T_,T_,F_,F_,F_,F_,F_,F_,F_,F_,F_,F_,F_,F_,F_,F_,F_,F_,F_,F_,F_] rfl rfl (any_of HT_.out (by kernel_rfl)) (fun _ _ _ h => h) (Or.inr ⟨by rfl, rfl⟩) ?_ ?_
          rotate_left
          ·simp only [put_]
           rfl
          refine pure_ (i := 11) (N := some 82) (v := undef) (a' := ?_) #[T_,T_,T_,T_,T_,T_,T_,T_,T_,T_,T_,T_,F_,F_,F_,F_,F_,F_,F_,F_,F_,F_,F_,F_,F_,F_,F_,F_,F_,F_] rfl rfl (any_of HT_.out (by kernel_rfl)) (fun _ _ _ h => h) (Or.inr ⟨by rfl, rfl⟩) ?_ ?_
          rotate_left
          ·simp only [put_]
           rfl
          refine pure_ (i := 12) (N := some 83) (v := ?_) (a' := ?_) #[T_,T_,T_,T_,T_,T_,T_,T_,T_,T_,T_,T_,T_,F_,F_,F_,F_,F_,F_,F_,F_,F_,F_,F_,F_,F_,F_,F_,F_,F_] rfl rfl (any_of HT_.out (by kernel_rfl)) (fun _ _ _ h => h) (Or.inl ⟨by rfl, ?_⟩) ?_ ?_
          rotate_left; (intro w'; go_simp; with_reducible rfl); rotate_left; (simp only [put_]; rfl)
          refine pure_ (i := 13) (N := some 84) (v := ?_) (a' := ?_) #[T_,T_,T_,T_,T_,T_,T_,T_,T_,T_,T_,T_,T_,T_,F_,F_,F_,F_,F_,F_,F_,F_,F_,F_,F_,F_,F_,F_,F_,F_] rfl rfl (any_of HT_.out (by kernel_rfl)) (fun _ _ _ h => h) (Or.inl ⟨by rfl, ?_⟩) ?_ ?_
          rotate_left; (intro w'; go_simp; with_reducible rfl); rotate_left; (simp only [put_]; rfl)
          refine pure_ (i := 14) (N := some 85) (v := undef) (a' := ?_) #[T_,T_,T_,T_,T_,T_,T_,T_,T_,T_,T_,T_,T_,T_,T_,F_,F_,F_,F_,F_,F_,F_,F_,F_,F_,F_,F_,F_,F_,F_] rfl rfl (any_of HT_.out (by kernel_rfl)) (fun _ _ _ h => h) (Or.inr ⟨by rfl, rfl⟩) ?_ ?_
          rotate_left
          ·simp only [put_]
           rfl
          refine pure_ (i := 15) (N := some 86) (v := undef) (a' := ?_) #[T_,T_,T_,T_,T_,T_,T_,T_,T_,T_,T_,T_,T_,T_,T_,T_,F_,F_,F_,F_,F_,F_,F_,F_,F_,F_,F_,F_,F_,F_] rfl rfl (any_of HT_.out (by kernel_rfl)) (fun _ _ _ h => h) (Or.inr ⟨by rfl, rfl⟩) ?_ ?_
          rotate_left
          ·simp only [put_]
           rfl
          refine pure_ (i := 16) (N := some 87) (v := undef) (a' := ?_) #[T_,T_,T_,T_,T_,T_,T_,T_,T_,T_,T_,T_,T_,T_,T_,T_,T_,F_,F_,F_,F_,F_,F_,F_,F_,F_,F_,F_,F_,F_] rfl rfl (any_of HT_.out (by kernel_rfl)) (fun _ _ _ h => h) (Or.inr ⟨by rfl, rfl⟩) ?_ ?_
          rotate_left
          ·simp only [put_]
           rfl
          refine pure_ (i := 17) (N := some 88) (v := undef) (a' := ?_) #[T_,T_,T_,T_,T_,T_,T_,T_,T_,T_,T_,T_,T_,T_,T_,T_,T_,T_,F_,F_,F_,F_,F_,F_,F_,F_,F_,F_,F_,F_] rfl rfl (any_of HT_.out (by kernel_rfl)) (fun _ _ _ h => h) (Or.inr ⟨by rfl, rfl⟩) ?_ ?_
          rotate_left
          ·simp only [put_]
           rfl
          refine pure_ (i := 18) (N := some 89) (v := undef) (a' := ?_) #[T_,T_,T_,T_,T_,T_,T_,T_,T_,T_,T_,T_,T_,T_,T_,T_,T_,T_,T_,F_,F_,F_,F_,F_,F_,F_,F_,F_,F_,F_] rfl rfl (any_of HT_.out (by kernel_rfl)) (fun _ _ _ h => h) (Or.inr ⟨by rfl, rfl⟩) ?_ ?_
          rotate_left
          ·simp only [put_]
           rfl
          refine pure_ (i := 19) (N := some 90) (v := ?_) (a' := ?_) #[T_,T_,T_,T_,T_,T_,T_,T_,T_,T_,T_,T_,T_,T_,T_,T_,T_,T_,T_,T_,F_,F_,F_,F_,F_,F_,F_,F_,F_,F_] rfl rfl (any_of HT_.out (by kernel_rfl)) (fun _ _ _ h => h) (Or.inl ⟨by rfl, ?_⟩) ?_ ?_
          rotate_left; (intro w'; go_simp; with_reducible rfl); rotate_left; (simp only [put_]; rfl)
          refine pure_ (i := 20) (N := some 91) (v := ?_) (a' := ?_) #[T_,T_,T_,T_,T_,T_,T_,T_,T_,T_,T_,T_,T_,T_,T_,T_,T_,T_,T_,T_,T_,F_,F_,F_,F_,F_,F_,F_,F_,F_] rfl rfl (any_of HT_.out (by kernel_rfl)) (fun _ _ _ h => h) (Or.inl ⟨by rfl, ?_⟩) ?_ ?_
          rotate_left; (intro w'; go_simp; with_reducible rfl); rotate_left; (simp only [put_]; rfl)
          refine pure_ (i := 21) (N := some 92) (v := ?_) (a' := ?_) #[T_,T_,T_,T_,T_,T_,T_,T_,T_,T_,T_,T_,T_,T_,T_,T_,T_,T_,T_,T_,T_,T_,F_,F_,F_,F_,F_,F_,F_,F_] rfl rfl (any_of HT_.out (by kernel_rfl)) (fun _ _ _ h => h) (Or.inl ⟨by rfl, ?_⟩) ?_ ?_
          rotate_left; (intro w'; go_simp; with_reducible rfl); rotate_left; (simp only [put_]; rfl)
          refine pure_ (i := 22) (N := some 93) (v := undef) (a' := ?_) #[T_,T_,T_,T_,T_,T_,T_,T_,T_,T_,T_,T_,T_,T_,T_,T_,T_,T_,T_,T_,T_,T_,T_,F_,F_,F_,F_,F_,F_,F_] rfl rfl (any_of HT_.out (by kernel_rfl)) (fun _ _ _ h => h) (Or.inr ⟨by rfl, rfl⟩) ?_ ?_
          rotate_left
          ·simp only [put_]
           rfl
          refine pure_ (i := 23) (N := some 94) (v := undef) (a' := ?_) #[T_,T_,T_,T_,T_,T_,T_,T_,T_,T_,T_,T_,T_,T_,T_,T_,T_,T_,T_,T_,T_,T_,T_,T_,F_,F_,F_,F_,F_,F_] rfl rfl (any_of HT_.out (by kernel_rfl)) (fun _ _ _ h => h) (Or.inr ⟨by rfl, rfl⟩) ?_ ?_
          rotate_left
          ·simp only [put_]
           rfl
          refine pure_ (i := 24) (N := some 95) (v := undef) (a' := ?_) #[T_,T_,T_,T_,T_,T_,T_,T_,T_,T_,T_,T_,T_,T_,T_,T_,T_,T_,T_,T_,T_,T_,T_,T_,T_,F_,F_,F_,F_,F_] rfl rfl (any_of HT_.out (by kernel_rfl)) (fun _ _ _ h => h) (Or.inr ⟨by rfl, rfl⟩) ?_ ?_
          rotate_left
          ·simp only [put_]
           rfl
          refine pure_ (i := 25) (N := some 96) (v := undef) (a' := ?_) #[T_,T_,T_,T_,T_,T_,T_,T_,T_,T_,T_,T_,T_,T_,T_,T_,T_,T_,T_,T_,T_,T_,T_,T_,T_,T_,F_,F_,F_,F_] rfl rfl (any_of HT_.out (by kernel_rfl)) (fun _ _ _ h => h) (Or.inr ⟨by rfl, rfl⟩) ?_ ?_
          rotate_left
          ·simp only [put_]
           rfl
          refine pure_ (i := 26) (N := some 97) (v := undef) (a' := ?_) #[T_,T_,T_,T_,T_,T_,T_,T_,T_,T_,T_,T_,T_,T_,T_,T_,T_,T_,T_,T_,T_,T_,T_,T_,T_,T_,T_,F_,F_,F_] rfl rfl (any_of HT_.out (by kernel_rfl)) (fun _ _ _ h => h) (Or.inr ⟨by rfl, rfl⟩) ?_ ?_
          rotate_left
          ·simp only [put_]
           rfl
          refine pure_ (i := 27) (N := some 98) (v := undef) (a' := ?_) #[T_,T_,T_,T_,T_,T_,T_,T_,T_,T_,T_,T_,T_,T_,T_,T_,T_,T_,T_,T_,T_,T_,T_,T_,T_,T_,T_,T_,F_,F_] rfl rfl (any_of HT_.out (by kernel_rfl)) (fun _ _ _ h => h) (Or.inr ⟨by rfl, rfl⟩) ?_ ?_
          rotate_left
          ·simp only [put_]
           rfl
          refine pure_ (i := 28) (N := some 99) (v := undef) (a' := ?_) #[T_,T_,T_,T_,T_,T_,T_,T_,T_,T_,T_,T_,T_,T_,T_,T_,T_,T_,T_,T_,T_,T_,T_,T_,T_,T_,T_,T_,T_,F_] rfl rfl (any_of HT_.out (by kernel_rfl)) (fun _ _ _ h => h) (Or.inr ⟨by rfl, rfl⟩) ?_ ?_
          rotate_left
          ·simp only [put_]
           rfl
          refine pure_ (i := 29) (N := some 100) (v := ?_) (a' := ?_) #[T_,T_,T_,T_,T_,T_,T_,T_,T_,T_,T_,T_,T_,T_,T_,T_,T_,T_,T_,T_,T_,T_,T_,T_,T_,T_,T_,T_,T_,T_] rfl rfl (any_of HT_.out (by kernel_rfl)) (fun _ _ _ h => h) (Or.inl ⟨by rfl, ?_⟩) ?_ ?_
          rotate_left; (intro w'; go_simp; with_reducible rfl); rotate_left; (simp only [put_]; rfl)
          refine done_ (done_of HT_.out (by kernel_rfl)) ?_
          try go_wp2
          go_meet
          case rel => exact ⟨_, (true), (by first | rfl | (simp; done) | (simp [*]; done)), H', ⟨by have := HJ24.out; have := HJ50.out; first | omega | exact Nat.le_refl _⟩, ⟨by exact BK172.out⟩, ⟨by exact BK173.out⟩, ⟨by exact BK174.out⟩, ⟨by exact BK192.out⟩, ⟨by repeat (first | (with_reducible first | exact HB.out | apply below_alloc | apply pw_below_drewN | apply below_drew1 | refine below_set ?_ GE172.out | refine below_set ?_ GE173.out | refine below_set ?_ GE174.out | refine below_set ?_ GE192.out) | exact HB.out)⟩⟩
         ·rw [if_neg c94] at H
          have c94b0 : (t193 != false) = false := by simpa using c94
          (try (have c94b1 : decide (t193 = false) = true := by simpa using c94))
          (try (have c94b2 : (t193 == false) = true := by simpa using c94))
          clear c94
          (first | rw [c94b0] | (simp only [i64_w, i32_w]; rw [c94b0]) | skip)
          replace H := Option.bind_eq_some_iff.mp H
          obtain ⟨t195, A990, H⟩ := H
          replace H : ((rect_Meets.f a1_0 a1_1 a1_2 a1_3 a0_0 a0_1 a0_2 a0_3).bind fun t196 => (counterpanelaw04_RectWhole.j2 kj50 (t195 != t196) a0_0 a0_1 a0_2 a0_3 a1_0 a1_1 a1_2 a1_3 a2_0 a2_1 a2_2 a2_3)) = some r := H
          have A99 := Aside0.mk A990
          clear A990
          replace H := Option.bind_eq_some_iff.mp H
          obtain ⟨t196, A1000, H⟩ := H
          replace H : (counterpanelaw04_RectWhole.j2 kj50 (t195 != t196) a0_0 a0_1 a0_2 a0_3 a1_0 a1_1 a1_2 a1_3 a2_0 a2_1 a2_2 a2_3) = some r := H
          have A100 := Aside0.mk A1000
          clear A1000
          have H' := Aside0.mk H
          clear H
          try go_wp2
          have n0_ : Aside0 (((((w86.setCell ⟨gb192, 0, none⟩ (.int .u32 t188)).setCell ⟨gb192, 1, none⟩ (.int .u32 t189)).setCell ⟨gb192, 2, none⟩ (.int .u32 t190)).setCell ⟨gb192, 3, none⟩ (.int .u32 t191)).heap[gb172]? = some (.cells #[.int .u32 a0_0, .int .u32 a0_1, .int .u32 a0_2, .int .u32 a0_3] 24 (0, 0))) := ⟨by refine blk_far ?_ NB172_192.out _; refine blk_far ?_ NB172_192.out _; refine blk_far ?_ NB172_192.out _; refine blk_far ?_ NB172_192.out _; exact BK172.out⟩
          have n1_ : Aside0 (((((w86.setCell ⟨gb192, 0, none⟩ (.int .u32 t188)).setCell ⟨gb192, 1, none⟩ (.int .u32 t189)).setCell ⟨gb192, 2, none⟩ (.int .u32 t190)).setCell ⟨gb192, 3, none⟩ (.int .u32 t191)).heap[gb173]? = some (.cells #[.int .u32 a1_0, .int .u32 a1_1, .int .u32 a1_2, .int .u32 a1_3] 24 (0, 0))) := ⟨by refine blk_far ?_ NB173_192.out _; refine blk_far ?_ NB173_192.out _; refine blk_far ?_ NB173_192.out _; refine blk_far ?_ NB173_192.out _; exact BK173.out⟩
          have n2_ : Aside0 (((((w86.setCell ⟨gb192, 0, none⟩ (.int .u32 t188)).setCell ⟨gb192, 1, none⟩ (.int .u32 t189)).setCell ⟨gb192, 2, none⟩ (.int .u32 t190)).setCell ⟨gb192, 3, none⟩ (.int .u32 t191)).heap[gb174]? = some (.cells #[.int .u32 a2_0, .int .u32 a2_1, .int .u32 a2_2, .int .u32 a2_3] 24 (0, 0))) := ⟨by refine blk_far ?_ NB174_192.out _; refine blk_far ?_ NB174_192.out _; refine blk_far ?_ NB174_192.out _; refine blk_far ?_ NB174_192.out _; exact BK174.out⟩
          have n3_ : Aside0 (((((w86.setCell ⟨gb192, 0, none⟩ (.int .u32 t188)).setCell ⟨gb192, 1, none⟩ (.int .u32 t189)).setCell ⟨gb192, 2, none⟩ (.int .u32 t190)).setCell ⟨gb192, 3, none⟩ (.int .u32 t191)).heap[gb192]? = some (.cells #[.int .u32 t188, .int .u32 t189, .int .u32 t190, .int .u32 t191] 24 (0, 0))) := ⟨by refine blk_put (cs := #[.int .u32 t188, .int .u32 t189, .int .u32 t190, .int .u32 0]) ?_ 3 _ (by first | rfl | simp); refine blk_put (cs := #[.int .u32 t188, .int .u32 t189, .int .u32 0, .int .u32 0]) ?_ 2 _ (by first | rfl | simp); refine blk_put (cs := #[.int .u32 t188, .int .u32 0, .int .u32 0, .int .u32 0]) ?_ 1 _ (by first | rfl | simp); refine blk_put (cs := #[.int .u32 0, .int .u32 0, .int .u32 0, .int .u32 0]) ?_ 0 _ (by first | rfl | simp); exact BK192.out⟩
          have n4_ : Aside0 (Below w.heap.size w ((((w86.setCell ⟨gb192, 0, none⟩ (.int .u32 t188)).setCell ⟨gb192, 1, none⟩ (.int .u32 t189)).setCell ⟨gb192, 2, none⟩ (.int .u32 t190)).setCell ⟨gb192, 3, none⟩ (.int .u32 t191))) := ⟨by repeat (first | (with_reducible first | exact HB.out | apply below_alloc | apply pw_below_drewN | apply below_drew1 | refine below_set ?_ GE172.out | refine below_set ?_ GE173.out | refine below_set ?_ GE174.out | refine below_set ?_ GE192.out) | exact HB.out)⟩
          (try clear BK172)
          (try clear BK173)
          (try clear BK174)
          (try clear BK192)
          (try clear HB)
          generalize ((((w86.setCell ⟨gb192, 0, none⟩ (.int .u32 t188)).setCell ⟨gb192, 1, none⟩ (.int .u32 t189)).setCell ⟨gb192, 2, none⟩ (.int .u32 t190)).setCell ⟨gb192, 3, none⟩ (.int .u32 t191)) = w101 at n0_ n1_ n2_ n3_ n4_ ⊢
          have BK172 := n0_
          have BK173 := n1_
          have BK174 := n2_
          have BK192 := n3_
          have HB := n4_
          clear n0_ n1_ n2_ n3_ n4_
          replace BK172 := Aside0.mk (blk_drew BK172.out)
          replace BK173 := Aside0.mk (blk_drew BK173.out)
          replace BK174 := Aside0.mk (blk_drew BK174.out)
          replace BK192 := Aside0.mk (blk_drew BK192.out)
          replace HB := Aside0.mk (below_drew1 HB.out)
          refine start_ (n := 30) (S := fun w' => w'.cell? ⟨gb172, 0, none⟩ = some (.int .u32 a0_0) ∧ w'.cell? ⟨gb172, 1, none⟩ = some (.int .u32 a0_1) ∧ w'.cell? ⟨gb172, 2, none⟩ = some (.int .u32 a0_2) ∧ w'.cell? ⟨gb172, 3, none⟩ = some (.int .u32 a0_3) ∧ w'.cell? ⟨gb173, 0, none⟩ = some (.int .u32 a1_0) ∧ w'.cell? ⟨gb173, 1, none⟩ = some (.int .u32 a1_1) ∧ w'.cell? ⟨gb173, 2, none⟩ = some (.int .u32 a1_2) ∧ w'.cell? ⟨gb173, 3, none⟩ = some (.int .u32 a1_3)) (ds := []) #[F_,F_,F_,F_,F_,F_,F_,F_,F_,F_,F_,F_,F_,F_,F_,F_,F_,F_,F_,F_,F_,F_,F_,F_,F_,F_,F_,F_,F_,F_] (by kernel_rfl) rfl rfl ⟨(blk_cell BK172.out 0).trans rfl, (blk_cell BK172.out 1).trans rfl, (blk_cell BK172.out 2).trans rfl, (blk_cell BK172.out 3).trans rfl, (blk_cell BK173.out 0).trans rfl, (blk_cell BK173.out 1).trans rfl, (blk_cell BK173.out 2).trans rfl, (blk_cell BK173.out 3).trans rfl⟩ (fun hHeld => ?_); refine with_tabW counterpanelaw04_RectWhole.tab7 counterpanelaw04_RectWhole.bits7 (fun HT_ HW_ => ?_)
          generalize w101.drew = w102 at BK172 BK173 BK174 BK192 HB hHeld ⊢
          refine take_ (i := 0) (N := some 71) (v := ?_) (a' := ?_) #[T_,F_,F_,F_,F_,F_,F_,F_,F_,F_,F_,F_,F_,F_,F_,F_,F_,F_,F_,F_,F_,F_,F_,F_,F_,F_,F_,F_,F_,F_] rfl rfl (take_ofW HT_.out HW_.out (by kernel_rfl)) (fun _ _ _ h => h) (Or.inl ⟨by rfl, ?_⟩) hHeld ?_ ?_
          rotate_left; (rintro w' ⟨s0, s1, s2, s3, s4, s5, s6, s7⟩; go_simp; with_reducible rfl); rotate_left; (simp only [put_]; rfl)
          refine take_ (i := 1) (N := some 72) (v := ?_) (a' := ?_) #[T_,T_,F_,F_,F_,F_,F_,F_,F_,F_,F_,F_,F_,F_,F_,F_,F_,F_,F_,F_,F_,F_,F_,F_,F_,F_,F_,F_,F_,F_] rfl rfl (take_ofW HT_.out HW_.out (by kernel_rfl)) (fun _ _ _ h => h) (Or.inl ⟨by rfl, ?_⟩) hHeld ?_ ?_
          rotate_left; (rintro w' ⟨s0, s1, s2, s3, s4, s5, s6, s7⟩; go_simp; with_reducible rfl); rotate_left; (simp only [put_]; rfl)
          refine take_ (i := 3) (N := some 74) (v := ?_) (a' := ?_) #[T_,T_,F_,T_,F_,F_,F_,F_,F_,F_,F_,F_,F_,F_,F_,F_,F_,F_,F_,F_,F_,F_,F_,F_,F_,F_,F_,F_,F_,F_] rfl rfl (take_ofW HT_.out HW_.out (by kernel_rfl)) (fun _ _ _ h => h) (Or.inl ⟨by rfl, ?_⟩) hHeld ?_ ?_
          rotate_left; (rintro w' ⟨s0, s1, s2, s3, s4, s5, s6, s7⟩; go_simp; with_reducible rfl); rotate_left; (simp only [put_]; rfl)
          refine one_ (i := 2) (N := some 73) #[T_,T_,T_,T_,F_,F_,F_,F_,F_,F_,F_,F_,F_,F_,F_,F_,F_,F_,F_,F_,F_,F_,F_,F_,F_,F_,F_,F_,F_,F_] rfl rfl (one_of HT_.out (by kernel_rfl)) (by decide) (fun K hK => ?_)
          refine goes_ Try.func11 (by kernel_rfl) rfl #[.agg #[.int .u32 a0_0, .int .u32 a0_1, .int .u32 a0_2, .int .u32 a0_3], .agg #[.int .u32 a1_0, .int .u32 a1_1, .int .u32 a1_2, .int .u32 a1_3]] (by rfl) rfl rfl (by (try simp only [List.map_toArray, List.map_cons, List.map_nil]); first | done | rfl | (simp only [List.length_drop, List.length_take]; rfl) | (simp; done)) ?_
          with_reducible refine (rect_Meets.calls a0_0 a0_1 a0_2 a0_3 a1_0 a1_1 a1_2 a1_3 t193 _ A91.out).mono ?_
          rintro e w103 ⟨rfl, hb⟩
          refine ⟨_, rfl, ?_⟩
          replace BK172 := Aside0.mk (blk_below BK172.out hb)
          replace BK173 := Aside0.mk (blk_below BK173.out hb)
          replace BK174 := Aside0.mk (blk_below BK174.out hb)
          replace BK192 := Aside0.mk (blk_below BK192.out hb)
          replace HB := Aside0.mk (below_step (by repeat (first | (with_reducible first | exact HB.out | apply below_alloc | apply pw_below_drewN | apply below_drew1 | refine below_set ?_ GE172.out | refine below_set ?_ GE173.out | refine below_set ?_ GE174.out | refine below_set ?_ GE192.out) | exact HB.out)) hb)
          refine hK.out _ _ ⟨(blk_cell BK172.out 0).trans rfl, (blk_cell BK172.out 1).trans rfl, (blk_cell BK172.out 2).trans rfl, (blk_cell BK172.out 3).trans rfl, (blk_cell BK173.out 0).trans rfl, (blk_cell BK173.out 1).trans rfl, (blk_cell BK173.out 2).trans rfl, (blk_cell BK173.out 3).trans rfl⟩ (fun hHeld => ?_)
          clear hK K
          refine norm_ (a' := ?_) ?_ ?_
          rotate_left
          ·show Act.put _ (some 73) _ = _
           simp only [put_]
           rfl
          refine one_ (i := 4) (N := some 75) #[T_,T_,T_,T_,T_,F_,F_,F_,F_,F_,F_,F_,F_,F_,F_,F_,F_,F_,F_,F_,F_,F_,F_,F_,F_,F_,F_,F_,F_,F_] rfl rfl (one_of HT_.out (by kernel_rfl)) (by decide) (fun K hK => ?_)
          refine goes_ Try.func10 (by kernel_rfl) rfl #[.agg #[.int .u32 a1_0, .int .u32 a1_1, .int .u32 a1_2, .int .u32 a1_3]] (by rfl) rfl rfl (by (try simp only [List.map_toArray, List.map_cons, List.map_nil]); first | done | rfl | (simp only [List.length_drop, List.length_take]; rfl) | (simp; done)) ?_
          with_reducible refine (rect_Empty.calls a1_0 a1_1 a1_2 a1_3 true _ A92.out).mono ?_
          rintro e w104 ⟨rfl, hb⟩
          refine ⟨_, rfl, ?_⟩
          replace BK172 := Aside0.mk (blk_below BK172.out hb)
          replace BK173 := Aside0.mk (blk_below BK173.out hb)
          replace BK174 := Aside0.mk (blk_below BK174.out hb)
          replace BK192 := Aside0.mk (blk_below BK192.out hb)
          replace HB := Aside0.mk (below_step (by repeat (first | (with_reducible first | exact HB.out | apply below_alloc | apply pw_below_drewN | apply below_drew1 | refine below_set ?_ GE172.out | refine below_set ?_ GE173.out | refine below_set ?_ GE174.out | refine below_set ?_ GE192.out) | exact HB.out)) hb)
          refine hK.out _ _ ⟨(blk_cell BK172.out 0).trans rfl, (blk_cell BK172.out 1).trans rfl, (blk_cell BK172.out 2).trans rfl, (blk_cell BK172.out 3).trans rfl, (blk_cell BK173.out 0).trans rfl, (blk_cell BK173.out 1).trans rfl, (blk_cell BK173.out 2).trans rfl, (blk_cell BK173.out 3).trans rfl⟩ (fun hHeld => ?_)
          clear hK K
          refine norm_ (a' := ?_) ?_ ?_
          rotate_left
          ·show Act.put _ (some 75) _ = _
           simp only [put_]
           rfl
          refine pure_ (i := 5) (N := some 76) (v := ?_) (a' := ?_) #[T_,T_,T_,T_,T_,T_,F_,F_,F_,F_,F_,F_,F_,F_,F_,F_,F_,F_,F_,F_,F_,F_,F_,F_,F_,F_,F_,F_,F_,F_] rfl rfl (any_of HT_.out (by kernel_rfl)) (fun _ _ _ h => h) (Or.inl ⟨by rfl, ?_⟩) ?_ ?_
          rotate_left; (intro w'; go_simp; with_reducible rfl); rotate_left; (simp only [put_]; rfl)
          refine pure_ (i := 6) (N := some 77) (v := ?_) (a' := ?_) #[T_,T_,T_,T_,T_,T_,T_,F_,F_,F_,F_,F_,F_,F_,F_,F_,F_,F_,F_,F_,F_,F_,F_,F_,F_,F_,F_,F_,F_,F_] rfl rfl (any_of HT_.out (by kernel_rfl)) (fun _ _ _ h => h) (Or.inl ⟨by rfl, ?_⟩) ?_ ?_
          rotate_left; (intro w'; go_simp; with_reducible rfl); rotate_left; (simp only [put_]; rfl)
          refine pure_ (i := 7) (N := some 78) (v := undef) (a' := ?_) #[T_,T_,T_,T_,T_,T_,T_,T_,F_,F_,F_,F_,F_,F_,F_,F_,F_,F_,F_,F_,F_,F_,F_,F_,F_,F_,F_,F_,F_,F_] rfl rfl (any_of HT_.out (by kernel_rfl)) (fun _ _ _ h => h) (Or.inr ⟨by rfl, rfl⟩) ?_ ?_
          rotate_left
          ·simp only [put_]
           rfl
          refine pure_ (i := 8) (N := some 79) (v := undef) (a' := ?_) #[T_,T_,T_,T_,T_,T_,T_,T_,T_,F_,F_,F_,F_,F_,F_,F_,F_,F_,F_,F_,F_,F_,F_,F_,F_,F_,F_,F_,F_,F_] rfl rfl (any_of HT_.out (by kernel_rfl)) (fun _ _ _ h => h) (Or.inr ⟨by rfl, rfl⟩) ?_ ?_
          rotate_left
          ·simp only [put_]
           rfl
          refine pure_ (i := 9) (N := some 80) (v := undef) (a' := ?_) #[T_,T_,T_,T_,T_,T_,T_,T_,T_,T_,F_,F_,F_,F_,F_,F_,F_,F_,F_,F_,F_,F_,F_,F_,F_,F_,F_,F_,F_,F_] rfl rfl (any_of HT_.out (by kernel_rfl)) (fun _ _ _ h => h) (Or.inr ⟨by rfl, rfl⟩) ?_ ?_
          rotate_left
          ·simp only [put_]
           rfl
          refine pure_ (i := 10) (N := some 81) (v := undef) (a' := ?_) #[T_,T_,T_,T_,T_,T_,T_,T_,T_,T_,T_,F_,F_,F_,F_,F_,F_,F_,F_,F_,F_,F_,F_,F_,F_,F_,F_,F_,F_,F_] rfl rfl (any_of HT_.out (by kernel_rfl)) (fun _ _ _ h => h) (Or.inr ⟨by rfl, rfl⟩) ?_ ?_
          rotate_left
          ·simp only [put_]
           rfl
          refine pure_ (i := 11) (N := some 82) (v := undef) (a' := ?_) #[T_,T_,T_,T_,T_,T_,T_,T_,T_,T_,T_,T_,F_,F_,F_,F_,F_,F_,F_,F_,F_,F_,F_,F_,F_,F_,F_,F_,F_,F_] rfl rfl (any_of HT_.out (by kernel_rfl)) (fun _ _ _ h => h) (Or.inr ⟨by rfl, rfl⟩) ?_ ?_
          rotate_left
          ·simp only [put_]
           rfl
          refine pure_ (i := 12) (N := some 83) (v := ?_) (a' := ?_) #[T_,T_,T_,T_,T_,T_,T_,T_,T_,T_,T_,T_,T_,F_,F_,F_,F_,F_,F_,F_,F_,F_,F_,F_,F_,F_,F_,F_,F_,F_] rfl rfl (any_of HT_.out (by kernel_rfl)) (fun _ _ _ h => h) (Or.inl ⟨by rfl, ?_⟩) ?_ ?_
          rotate_left; (intro w'; go_simp; with_reducible rfl); rotate_left; (simp only [put_]; rfl)
          refine pure_ (i := 13) (N := some 84) (v := ?_) (a' := ?_) #[T_,T_,T_,T_,T_,T_,T_,T_,T_,T_,T_,T_,T_,T_,F_,F_,F_,F_,F_,F_,F_,F_,F_,F_,F_,F_,F_,F_,F_,F_] rfl rfl (any_of HT_.out (by kernel_rfl)) (fun _ _ _ h => h) (Or.inl ⟨by rfl, ?_⟩) ?_ ?_
          rotate_left; (intro w'; go_simp; with_reducible rfl); rotate_left; (simp only [put_]; rfl)
          refine pure_ (i := 14) (N := some 85) (v := undef) (a' := ?_) #[T_,T_,T_,T_,T_,T_,T_,T_,T_,T_,T_,T_,T_,T_,T_,F_,F_,F_,F_,F_,F_,F_,F_,F_,F_,F_,F_,F_,F_,F_] rfl rfl (any_of HT_.out (by kernel_rfl)) (fun _ _ _ h => h) (Or.inr ⟨by rfl, rfl⟩) ?_ ?_
          rotate_left
          ·simp only [put_]
           rfl
          refine pure_ (i := 15) (N := some 86) (v := undef) (a' := ?_) #[T_,T_,T_,T_,T_,T_,T_,T_,T_,T_,T_,T_,T_,T_,T_,T_,F_,F_,F_,F_,F_,F_,F_,F_,F_,F_,F_,F_,F_,F_] rfl rfl (any_of HT_.out (by kernel_rfl)) (fun _ _ _ h => h) (Or.inr ⟨by rfl, rfl⟩) ?_ ?_
          rotate_left
          ·simp only [put_]
           rfl
          refine pure_ (i := 16) (N := some 87) (v := undef) (a' := ?_) #[T_,T_,T_,T_,T_,T_,T_,T_,T_,T_,T_,T_,T_,T_,T_,T_,T_,F_,F_,F_,F_,F_,F_,F_,F_,F_,F_,F_,F_,F_] rfl rfl (any_of HT_.out (by kernel_rfl)) (fun _ _ _ h => h) (Or.inr ⟨by rfl, rfl⟩) ?_ ?_
          rotate_left
          ·simp only [put_]
           rfl
          refine pure_ (i := 17) (N := some 88) (v := undef) (a' := ?_) #[T_,T_,T_,T_,T_,T_,T_,T_,T_,T_,T_,T_,T_,T_,T_,T_,T_,T_,F_,F_,F_,F_,F_,F_,F_,F_,F_,F_,F_,F_] rfl rfl (any_of HT_.out (by kernel_rfl)) (fun _ _ _ h => h) (Or.inr ⟨by rfl, rfl⟩) ?_ ?_
          rotate_left
          ·simp only [put_]
           rfl
          refine pure_ (i := 18) (N := some 89) (v := undef) (a' := ?_) #[T_,T_,T_,T_,T_,T_,T_,T_,T_,T_,T_,T_,T_,T_,T_,T_,T_,T_,T_,F_,F_,F_,F_,F_,F_,F_,F_,F_,F_,F_] rfl rfl (any_of HT_.out (by kernel_rfl)) (fun _ _ _ h => h) (Or.inr ⟨by rfl, rfl⟩) ?_ ?_
          rotate_left
          ·simp only [put_]
           rfl
          refine pure_ (i := 19) (N := some 90) (v := ?_) (a' := ?_) #[T_,T_,T_,T_,T_,T_,T_,T_,T_,T_,T_,T_,T_,T_,T_,T_,T_,T_,T_,T_,F_,F_,F_,F_,F_,F_,F_,F_,F_,F_] rfl rfl (any_of HT_.out (by kernel_rfl)) (fun _ _ _ h => h) (Or.inl ⟨by rfl, ?_⟩) ?_ ?_
          rotate_left; (intro w'; go_simp; with_reducible rfl); rotate_left; (simp only [put_]; rfl)
          refine pure_ (i := 20) (N := some 91) (v := ?_) (a' := ?_) #[T_,T_,T_,T_,T_,T_,T_,T_,T_,T_,T_,T_,T_,T_,T_,T_,T_,T_,T_,T_,T_,F_,F_,F_,F_,F_,F_,F_,F_,F_] rfl rfl (any_of HT_.out (by kernel_rfl)) (fun _ _ _ h => h) (Or.inl ⟨by rfl, ?_⟩) ?_ ?_
          rotate_left; (intro w'; go_simp; with_reducible rfl); rotate_left; (simp only [put_]; rfl)
          refine pure_ (i := 21) (N := some 92) (v := ?_) (a' := ?_) #[T_,T_,T_,T_,T_,T_,T_,T_,T_,T_,T_,T_,T_,T_,T_,T_,T_,T_,T_,T_,T_,T_,F_,F_,F_,F_,F_,F_,F_,F_] rfl rfl (any_of HT_.out (by kernel_rfl)) (fun _ _ _ h => h) (Or.inl ⟨by rfl, ?_⟩) ?_ ?_
          rotate_left; (intro w'; go_simp; with_reducible rfl); rotate_left; (simp only [put_]; rfl)
          refine take_ (i := 22) (N := some 93) (v := ?_) (a' := ?_) #[T_,T_,T_,T_,T_,T_,T_,T_,T_,T_,T_,T_,T_,T_,T_,T_,T_,T_,T_,T_,T_,T_,T_,F_,F_,F_,F_,F_,F_,F_] rfl rfl (take_ofW HT_.out HW_.out (by kernel_rfl)) (fun _ _ _ h => h) (Or.inl ⟨by rfl, ?_⟩) hHeld ?_ ?_
          rotate_left; (rintro w' ⟨s0, s1, s2, s3, s4, s5, s6, s7⟩; go_simp; with_reducible rfl); rotate_left; (simp only [put_]; rfl)
          refine take_ (i := 23) (N := some 94) (v := ?_) (a' := ?_) #[T_,T_,T_,T_,T_,T_,T_,T_,T_,T_,T_,T_,T_,T_,T_,T_,T_,T_,T_,T_,T_,T_,T_,T_,F_,F_,F_,F_,F_,F_] rfl rfl (take_ofW HT_.out HW_.out (by kernel_rfl)) (fun _ _ _ h => h) (Or.inl ⟨by rfl, ?_⟩) hHeld ?_ ?_
          rotate_left; (rintro w' ⟨s0, s1, s2, s3, s4, s5, s6, s7⟩; go_simp; with_reducible rfl); rotate_left; (simp only [put_]; rfl)
          refine take_ (i := 25) (N := some 96) (v := ?_) (a' := ?_) #[T_,T_,T_,T_,T_,T_,T_,T_,T_,T_,T_,T_,T_,T_,T_,T_,T_,T_,T_,T_,T_,T_,T_,T_,F_,T_,F_,F_,F_,F_] rfl rfl (take_ofW HT_.out HW_.out (by kernel_rfl)) (fun _ _ _ h => h) (Or.inl ⟨by rfl, ?_⟩) hHeld ?_ ?_
          rotate_left; (rintro w' ⟨s0, s1, s2, s3, s4, s5, s6, s7⟩; go_simp; with_reducible rfl); rotate_left; (simp only [put_]; rfl)
          refine take_ (i := 26) (N := some 97) (v := ?_) (a' := ?_) #[T_,T_,T_,T_,T_,T_,T_,T_,T_,T_,T_,T_,T_,T_,T_,T_,T_,T_,T_,T_,T_,T_,T_,T_,F_,T_,T_,F_,F_,F_] rfl rfl (take_ofW HT_.out HW_.out (by kernel_rfl)) (fun _ _ _ h => h) (Or.inl ⟨by rfl, ?_⟩) hHeld ?_ ?_
          rotate_left; (rintro w' ⟨s0, s1, s2, s3, s4, s5, s6, s7⟩; go_simp; with_reducible rfl); rotate_left; (simp only [put_]; rfl)
          refine one_ (i := 24) (N := some 95) #[T_,T_,T_,T_,T_,T_,T_,T_,T_,T_,T_,T_,T_,T_,T_,T_,T_,T_,T_,T_,T_,T_,T_,T_,T_,T_,T_,F_,F_,F_] rfl rfl (one_of HT_.out (by kernel_rfl)) (by decide) (fun K hK => ?_)
          refine goes_ Try.func11 (by kernel_rfl) rfl #[.agg #[.int .u32 a0_0, .int .u32 a0_1, .int .u32 a0_2, .int .u32 a0_3], .agg #[.int .u32 a1_0, .int .u32 a1_1, .int .u32 a1_2, .int .u32 a1_3]] (by rfl) rfl rfl (by (try simp only [List.map_toArray, List.map_cons, List.map_nil]); first | done | rfl | (simp only [List.length_drop, List.length_take]; rfl) | (simp; done)) ?_
          with_reducible refine (rect_Meets.calls a0_0 a0_1 a0_2 a0_3 a1_0 a1_1 a1_2 a1_3 t195 _ A99.out).mono ?_
          rintro e w105 ⟨rfl, hb⟩
          refine ⟨_, rfl, ?_⟩
          replace BK172 := Aside0.mk (blk_below BK172.out hb)
          replace BK173 := Aside0.mk (blk_below BK173.out hb)
          replace BK174 := Aside0.mk (blk_below BK174.out hb)
          replace BK192 := Aside0.mk (blk_below BK192.out hb)
          replace HB := Aside0.mk (below_step (by repeat (first | (with_reducible first | exact HB.out | apply below_alloc | apply pw_below_drewN | apply below_drew1 | refine below_set ?_ GE172.out | refine below_set ?_ GE173.out | refine below_set ?_ GE174.out | refine below_set ?_ GE192.out) | exact HB.out)) hb)
          refine hK.out _ _ ⟨(blk_cell BK172.out 0).trans rfl, (blk_cell BK172.out 1).trans rfl, (blk_cell BK172.out 2).trans rfl, (blk_cell BK172.out 3).trans rfl, (blk_cell BK173.out 0).trans rfl, (blk_cell BK173.out 1).trans rfl, (blk_cell BK173.out 2).trans rfl, (blk_cell BK173.out 3).trans rfl⟩ (fun hHeld => ?_)
          clear hK K
          refine norm_ (a' := ?_) ?_ ?_
          rotate_left
          ·show Act.put _ (some 95) _ = _
           simp only [put_]
           rfl
          refine one_ (i := 27) (N := some 98) #[T_,T_,T_,T_,T_,T_,T_,T_,T_,T_,T_,T_,T_,T_,T_,T_,T_,T_,T_,T_,T_,T_,T_,T_,T_,T_,T_,T_,F_,F_] rfl rfl (one_of HT_.out (by kernel_rfl)) (by decide) (fun K hK => ?_)
          refine goes_ Try.func11 (by kernel_rfl) rfl #[.agg #[.int .u32 a1_0, .int .u32 a1_1, .int .u32 a1_2, .int .u32 a1_3], .agg #[.int .u32 a0_0, .int .u32 a0_1, .int .u32 a0_2, .int .u32 a0_3]] (by rfl) rfl rfl (by (try simp only [List.map_toArray, List.map_cons, List.map_nil]); first | done | rfl | (simp only [List.length_drop, List.length_take]; rfl) | (simp; done)) ?_
          with_reducible refine (rect_Meets.calls a1_0 a1_1 a1_2 a1_3 a0_0 a0_1 a0_2 a0_3 t196 _ A100.out).mono ?_
          rintro e w106 ⟨rfl, hb⟩
          refine ⟨_, rfl, ?_⟩
          replace BK172 := Aside0.mk (blk_below BK172.out hb)
          replace BK173 := Aside0.mk (blk_below BK173.out hb)
          replace BK174 := Aside0.mk (blk_below BK174.out hb)
          replace BK192 := Aside0.mk (blk_below BK192.out hb)
          replace HB := Aside0.mk (below_step (by repeat (first | (with_reducible first | exact HB.out | apply below_alloc | apply pw_below_drewN | apply below_drew1 | refine below_set ?_ GE172.out | refine below_set ?_ GE173.out | refine below_set ?_ GE174.out | refine below_set ?_ GE192.out) | exact HB.out)) hb)
          refine hK.out _ _ ⟨(blk_cell BK172.out 0).trans rfl, (blk_cell BK172.out 1).trans rfl, (blk_cell BK172.out 2).trans rfl, (blk_cell BK172.out 3).trans rfl, (blk_cell BK173.out 0).trans rfl, (blk_cell BK173.out 1).trans rfl, (blk_cell BK173.out 2).trans rfl, (blk_cell BK173.out 3).trans rfl⟩ (fun hHeld => ?_)
          clear hK K
          refine norm_ (a' := ?_) ?_ ?_
          rotate_left
          ·show Act.put _ (some 98) _ = _
           simp only [put_]
           rfl
          refine pure_ (i := 28) (N := some 99) (v := ?_) (a' := ?_) #[T_,T_,T_,T_,T_,T_,T_,T_,T_,T_,T_,T_,T_,T_,T_,T_,T_,T_,T_,T_,T_,T_,T_,T_,T_,T_,T_,T_,T_,F_] rfl rfl (any_of HT_.out (by kernel_rfl)) (fun _ _ _ h => h) (Or.inl ⟨by rfl, ?_⟩) ?_ ?_
          rotate_left; (intro w'; go_simp; with_reducible rfl); rotate_left; (simp only [put_]; rfl)
          refine pure_ (i := 29) (N := some 100) (v := ?_) (a' := ?_) #[T_,T_,T_,T_,T_,T_,T_,T_,T_,T_,T_,T_,T_,T_,T_,T_,T_,T_,T_,T_,T_,T_,T_,T_,T_,T_,T_,T_,T_,T_] rfl rfl (any_of HT_.out (by kernel_rfl)) (fun _ _ _ h => h) (Or.inl ⟨by rfl, ?_⟩) ?_ ?_
          rotate_left; (intro w'; go_simp; with_reducible rfl); rotate_left; (simp only [put_]; rfl)
          refine done_ (done_of HT_.out (by kernel_rfl)) ?_
          try go_wp2
          go_meet
          case rel => exact ⟨_, ((t195 != t196)), (by first | rfl | (simp; done) | (simp [*]; done)), H', ⟨by have := HJ24.out; have := HJ50.out; first | omega | exact Nat.le_refl _⟩, ⟨by exact BK172.out⟩, ⟨by exact BK173.out⟩, ⟨by exact BK174.out⟩, ⟨by exact BK192.out⟩, ⟨by repeat (first | (with_reducible first | exact HB.out | apply below_alloc | apply pw_below_drewN | apply below_drew1 | refine below_set ?_ GE172.out | refine below_set ?_ GE173.out | refine below_set ?_ GE174.out | refine below_set ?_ GE192.out) | exact HB.out)⟩⟩
        ·replace c93 := Bool.eq_false_iff.mpr c93
         subst c93
         have H1 : (if t188 ≤ t190 then (if (t193 != (decide (t189 ≤ t191))) = true then (counterpanelaw04_RectWhole.j2 kj50 true a0_0 a0_1 a0_2 a0_3 a1_0 a1_1 a1_2 a1_3 a2_0 a2_1 a2_2 a2_3) else ((rect_Meets.f a0_0 a0_1 a0_2 a0_3 a1_0 a1_1 a1_2 a1_3).bind fun t197 => ((rect_Meets.f a1_0 a1_1 a1_2 a1_3 a0_0 a0_1 a0_2 a0_3).bind fun t198 => (counterpanelaw04_RectWhole.j2 kj50 (t197 != t198) a0_0 a0_1 a0_2 a0_3 a1_0 a1_1 a1_2 a1_3 a2_0 a2_1 a2_2 a2_3)))) else (if (t193 != false) = true then (counterpanelaw04_RectWhole.j2 kj50 true a0_0 a0_1 a0_2 a0_3 a1_0 a1_1 a1_2 a1_3 a2_0 a2_1 a2_2 a2_3) else ((rect_Meets.f a0_0 a0_1 a0_2 a0_3 a1_0 a1_1 a1_2 a1_3).bind fun t199 => ((rect_Meets.f a1_0 a1_1 a1_2 a1_3 a0_0 a0_1 a0_2 a0_3).bind fun t200 => (counterpanelaw04_RectWhole.j2 kj50 (t199 != t200) a0_0 a0_1 a0_2 a0_3 a1_0 a1_1 a1_2 a1_3 a2_0 a2_1 a2_2 a2_3))))) = some r := by rw [if_neg (show ¬ (false = true) by decide)] at H; exact H
         clear H
         have H := H1
         clear H1
         by_cases c107 : t188 ≤ t190
         ·rw [if_pos c107] at H
          have c107b0 : decide (t188 ≤ t190) = true := decide_eq_true c107
          clear c107
          by_cases c108 : (t193 != (decide (t189 ≤ t191))) = true
          ·rw [if_pos c108] at H
           have c108b0 : (t193 != (decide (t189 ≤ t191))) = true := c108
           (try (have c108b1 : decide (t193 = (decide (t189 ≤ t191))) = false := by simpa using c108))
           (try (have c108b2 : (t193 == (decide (t189 ≤ t191))) = false := by simpa using c108))
           (try (have c108b3 : ¬ (t193 = (decide (t189 ≤ t191))) := by simpa using c108))
           clear c108
           have H' := Aside0.mk H
           clear H
           try go_wp2
           have n0_ : Aside0 (((((w86.setCell ⟨gb192, 0, none⟩ (.int .u32 t188)).setCell ⟨gb192, 1, none⟩ (.int .u32 t189)).setCell ⟨gb192, 2, none⟩ (.int .u32 t190)).setCell ⟨gb192, 3, none⟩ (.int .u32 t191)).heap[gb172]? = some (.cells #[.int .u32 a0_0, .int .u32 a0_1, .int .u32 a0_2, .int .u32 a0_3] 24 (0, 0))) := ⟨by refine blk_far ?_ NB172_192.out _; refine blk_far ?_ NB172_192.out _; refine blk_far ?_ NB172_192.out _; refine blk_far ?_ NB172_192.out _; exact BK172.out⟩
           have n1_ : Aside0 (((((w86.setCell ⟨gb192, 0, none⟩ (.int .u32 t188)).setCell ⟨gb192, 1, none⟩ (.int .u32 t189)).setCell ⟨gb192, 2, none⟩ (.int .u32 t190)).setCell ⟨gb192, 3, none⟩ (.int .u32 t191)).heap[gb173]? = some (.cells #[.int .u32 a1_0, .int .u32 a1_1, .int .u32 a1_2, .int .u32 a1_3] 24 (0, 0))) := ⟨by refine blk_far ?_ NB173_192.out _; refine blk_far ?_ NB173_192.out _; refine blk_far ?_ NB173_192.out _; refine blk_far ?_ NB173_192.out _; exact BK173.out⟩
           have n2_ : Aside0 (((((w86.setCell ⟨gb192, 0, none⟩ (.int .u32 t188)).setCell ⟨gb192, 1, none⟩ (.int .u32 t189)).setCell ⟨gb192, 2, none⟩ (.int .u32 t190)).setCell ⟨gb192, 3, none⟩ (.int .u32 t191)).heap[gb174]? = some (.cells #[.int .u32 a2_0, .int .u32 a2_1, .int .u32 a2_2, .int .u32 a2_3] 24 (0, 0))) := ⟨by refine blk_far ?_ NB174_192.out _; refine blk_far ?_ NB174_192.out _; refine blk_far ?_ NB174_192.out _; refine blk_far ?_ NB174_192.out _; exact BK174.out⟩
           have n3_ : Aside0 (((((w86.setCell ⟨gb192, 0, none⟩ (.int .u32 t188)).setCell ⟨gb192, 1, none⟩ (.int .u32 t189)).setCell ⟨gb192, 2, none⟩ (.int .u32 t190)).setCell ⟨gb192, 3, none⟩ (.int .u32 t191)).heap[gb192]? = some (.cells #[.int .u32 t188, .int .u32 t189, .int .u32 t190, .int .u32 t191] 24 (0, 0))) := ⟨by refine blk_put (cs := #[.int .u32 t188, .int .u32 t189, .int .u32 t190, .int .u32 0]) ?_ 3 _ (by first | rfl | simp); refine blk_put (cs := #[.int .u32 t188, .int .u32 t189, .int .u32 0, .int .u32 0]) ?_ 2 _ (by first | rfl | simp); refine blk_put (cs := #[.int .u32 t188, .int .u32 0, .int .u32 0, .int .u32 0]) ?_ 1 _ (by first | rfl | simp); refine blk_put (cs := #[.int .u32 0, .int .u32 0, .int .u32 0, .int .u32 0]) ?_ 0 _ (by first | rfl | simp); exact BK192.out⟩
           have n4_ : Aside0 (Below w.heap.size w ((((w86.setCell ⟨gb192, 0, none⟩ (.int .u32 t188)).setCell ⟨gb192, 1, none⟩ (.int .u32 t189)).setCell ⟨gb192, 2, none⟩ (.int .u32 t190)).setCell ⟨gb192, 3, none⟩ (.int .u32 t191))) := ⟨by repeat (first | (with_reducible first | exact HB.out | apply below_alloc | apply pw_below_drewN | apply below_drew1 | refine below_set ?_ GE172.out | refine below_set ?_ GE173.out | refine below_set ?_ GE174.out | refine below_set ?_ GE192.out) | exact HB.out)⟩
           (try clear BK172)
           (try clear BK173)
           (try clear BK174)
           (try clear BK192)
           (try clear HB)
           generalize ((((w86.setCell ⟨gb192, 0, none⟩ (.int .u32 t188)).setCell ⟨gb192, 1, none⟩ (.int .u32 t189)).setCell ⟨gb192, 2, none⟩ (.int .u32 t190)).setCell ⟨gb192, 3, none⟩ (.int .u32 t191)) = w109 at n0_ n1_ n2_ n3_ n4_ ⊢
           have BK172 := n0_
           have BK173 := n1_
           have BK174 := n2_
           have BK192 := n3_
           have HB := n4_
           clear n0_ n1_ n2_ n3_ n4_
           replace BK172 := Aside0.mk (blk_drew BK172.out)
           replace BK173 := Aside0.mk (blk_drew BK173.out)
           replace BK174 := Aside0.mk (blk_drew BK174.out)
           replace BK192 := Aside0.mk (blk_drew BK192.out)
           replace HB := Aside0.mk (below_drew1 HB.out)
           refine start_ (n := 30) (S := fun w' => w'.cell? ⟨gb172, 0, none⟩ = some (.int .u32 a0_0) ∧ w'.cell? ⟨gb172, 1, none⟩ = some (.int .u32 a0_1) ∧ w'.cell? ⟨gb172, 2, none⟩ = some (.int .u32 a0_2) ∧ w'.cell? ⟨gb172, 3, none⟩ = some (.int .u32 a0_3) ∧ w'.cell? ⟨gb173, 0, none⟩ = some (.int .u32 a1_0) ∧ w'.cell? ⟨gb173, 1, none⟩ = some (.int .u32 a1_1) ∧ w'.cell? ⟨gb173, 2, none⟩ = some (.int .u32 a1_2) ∧ w'.cell? ⟨gb173, 3, none⟩ = some (.int .u32 a1_3) ∧ w'.cell? ⟨gb192, 0, none⟩ = some (.int .u32 t188) ∧ w'.cell? ⟨gb192, 1, none⟩ = some (.int .u32 t189) ∧ w'.cell? ⟨gb192, 2, none⟩ = some (.int .u32 t190) ∧ w'.cell? ⟨gb192, 3, none⟩ = some (.int .u32 t191)) (ds := []) #[F_,F_,F_,F_,F_,F_,F_,F_,F_,F_,F_,F_,F_,F_,F_,F_,F_,F_,F_,F_,F_,F_,F_,F_,F_,F_,F_,F_,F_,F_] (by kernel_rfl) rfl rfl ⟨(blk_cell BK172.out 0).trans rfl, (blk_cell BK172.out 1).trans rfl, (blk_cell BK172.out 2).trans rfl, (blk_cell BK172.out 3).trans rfl, (blk_cell BK173.out 0).trans rfl, (blk_cell BK173.out 1).trans rfl, (blk_cell BK173.out 2).trans rfl, (blk_cell BK173.out 3).trans rfl, (blk_cell BK192.out 0).trans rfl, (blk_cell BK192.out 1).trans rfl, (blk_cell BK192.out 2).trans rfl, (blk_cell BK192.out 3).trans rfl⟩ (fun hHeld => ?_); refine with_tabW counterpanelaw04_RectWhole.tab7 counterpanelaw04_RectWhole.bits7 (fun HT_ HW_ => ?_)
           generalize w109.drew = w110 at BK172 BK173 BK174 BK192 HB hHeld ⊢
           refine take_ (i := 0) (N := some 71) (v := ?_) (a' := ?_) #[T_,F_,F_,F_,F_,F_,F_,F_,F_,F_,F_,F_,F_,F_,F_,F_,F_,F_,F_,F_,F_,F_,F_,F_,F_,F_,F_,F_,F_,F_] rfl rfl (take_ofW HT_.out HW_.out (by kernel_rfl)) (fun _ _ _ h => h) (Or.inl ⟨by rfl, ?_⟩) hHeld ?_ ?_
           rotate_left; (rintro w' ⟨s0, s1, s2, s3, s4, s5, s6, s7, s8, s9, s10, s11⟩; go_simp; with_reducible rfl); rotate_left; (simp only [put_]; rfl)
           refine take_ (i := 1) (N := some 72) (v := ?_) (a' := ?_) #[T_,T_,F_,F_,F_,F_,F_,F_,F_,F_,F_,F_,F_,F_,F_,F_,F_,F_,F_,F_,F_,F_,F_,F_,F_,F_,F_,F_,F_,F_] rfl rfl (take_ofW HT_.out HW_.out (by kernel_rfl)) (fun _ _ _ h => h) (Or.inl ⟨by rfl, ?_⟩) hHeld ?_ ?_
           rotate_left; (rintro w' ⟨s0, s1, s2, s3, s4, s5, s6, s7, s8, s9, s10, s11⟩; go_simp; with_reducible rfl); rotate_left; (simp only [put_]; rfl)
           refine take_ (i := 3) (N := some 74) (v := ?_) (a' := ?_) #[T_,T_,F_,T_,F_,F_,F_,F_,F_,F_,F_,F_,F_,F_,F_,F_,F_,F_,F_,F_,F_,F_,F_,F_,F_,F_,F_,F_,F_,F_] rfl rfl (take_ofW HT_.out HW_.out (by kernel_rfl)) (fun _ _ _ h => h) (Or.inl ⟨by rfl, ?_⟩) hHeld ?_ ?_
           rotate_left; (rintro w' ⟨s0, s1, s2, s3, s4, s5, s6, s7, s8, s9, s10, s11⟩; go_simp; with_reducible rfl); rotate_left; (simp only [put_]; rfl)
           refine one_ (i := 2) (N := some 73) #[T_,T_,T_,T_,F_,F_,F_,F_,F_,F_,F_,F_,F_,F_,F_,F_,F_,F_,F_,F_,F_,F_,F_,F_,F_,F_,F_,F_,F_,F_] rfl rfl (one_of HT_.out (by kernel_rfl)) (by decide) (fun K hK => ?_)
           refine goes_ Try.func11 (by kernel_rfl) rfl #[.agg #[.int .u32 a0_0, .int .u32 a0_1, .int .u32 a0_2, .int .u32 a0_3], .agg #[.int .u32 a1_0, .int .u32 a1_1, .int .u32 a1_2, .int .u32 a1_3]] (by rfl) rfl rfl (by (try simp only [List.map_toArray, List.map_cons, List.map_nil]); first | done | rfl | (simp only [List.length_drop, List.length_take]; rfl) | (simp; done)) ?_
           with_reducible refine (rect_Meets.calls a0_0 a0_1 a0_2 a0_3 a1_0 a1_1 a1_2 a1_3 t193 _ A91.out).mono ?_
           rintro e w111 ⟨rfl, hb⟩
           refine ⟨_, rfl, ?_⟩
           replace BK172 := Aside0.mk (blk_below BK172.out hb)
           replace BK173 := Aside0.mk (blk_below BK173.out hb)
           replace BK174 := Aside0.mk (blk_below BK174.out hb)
           replace BK192 := Aside0.mk (blk_below BK192.out hb)
           replace HB := Aside0.mk (below_step (by repeat (first | (with_reducible first | exact HB.out | apply below_alloc | apply pw_below_drewN | apply below_drew1 | refine below_set ?_ GE172.out | refine below_set ?_ GE173.out | refine below_set ?_ GE174.out | refine below_set ?_ GE192.out) | exact HB.out)) hb)
           refine hK.out _ _ ⟨(blk_cell BK172.out 0).trans rfl, (blk_cell BK172.out 1).trans rfl, (blk_cell BK172.out 2).trans rfl, (blk_cell BK172.out 3).trans rfl, (blk_cell BK173.out 0).trans rfl, (blk_cell BK173.out 1).trans rfl, (blk_cell BK173.out 2).trans rfl, (blk_cell BK173.out 3).trans rfl, (blk_cell BK192.out 0).trans rfl, (blk_cell BK192.out 1).trans rfl, (blk_cell BK192.out 2).trans rfl, (blk_cell BK192.out 3).trans rfl⟩ (fun hHeld => ?_)
           clear hK K
           refine norm_ (a' := ?_) ?_ ?_
           rotate_left
           ·show Act.put _ (some 73) _ = _
            simp only [put_]
            rfl
           refine one_ (i := 4) (N := some 75) #[T_,T_,T_,T_,T_,F_,F_,F_,F_,F_,F_,F_,F_,F_,F_,F_,F_,F_,F_,F_,F_,F_,F_,F_,F_,F_,F_,F_,F_,F_] rfl rfl (one_of HT_.out (by kernel_rfl)) (by decide) (fun K hK => ?_)
           refine goes_ Try.func10 (by kernel_rfl) rfl #[.agg #[.int .u32 a1_0, .int .u32 a1_1, .int .u32 a1_2, .int .u32 a1_3]] (by rfl) rfl rfl (by (try simp only [List.map_toArray, List.map_cons, List.map_nil]); first | done | rfl | (simp only [List.length_drop, List.length_take]; rfl) | (simp; done)) ?_
           with_reducible refine (rect_Empty.calls a1_0 a1_1 a1_2 a1_3 false _ A92.out).mono ?_
           rintro e w112 ⟨rfl, hb⟩
           refine ⟨_, rfl, ?_⟩
           replace BK172 := Aside0.mk (blk_below BK172.out hb)
           replace BK173 := Aside0.mk (blk_below BK173.out hb)
           replace BK174 := Aside0.mk (blk_below BK174.out hb)
           replace BK192 := Aside0.mk (blk_below BK192.out hb)
           replace HB := Aside0.mk (below_step (by repeat (first | (with_reducible first | exact HB.out | apply below_alloc | apply pw_below_drewN | apply below_drew1 | refine below_set ?_ GE172.out | refine below_set ?_ GE173.out | refine below_set ?_ GE174.out | refine below_set ?_ GE192.out) | exact HB.out)) hb)
           refine hK.out _ _ ⟨(blk_cell BK172.out 0).trans rfl, (blk_cell BK172.out 1).trans rfl, (blk_cell BK172.out 2).trans rfl, (blk_cell BK172.out 3).trans rfl, (blk_cell BK173.out 0).trans rfl, (blk_cell BK173.out 1).trans rfl, (blk_cell BK173.out 2).trans rfl, (blk_cell BK173.out 3).trans rfl, (blk_cell BK192.out 0).trans rfl, (blk_cell BK192.out 1).trans rfl, (blk_cell BK192.out 2).trans rfl, (blk_cell BK192.out 3).trans rfl⟩ (fun hHeld => ?_)
           clear hK K
           refine norm_ (a' := ?_) ?_ ?_
           rotate_left
           ·show Act.put _ (some 75) _ = _
            simp only [put_]
            rfl
           refine pure_ (i := 5) (N := some 76) (v := ?_) (a' := ?_) #[T_,T_,T_,T_,T_,T_,F_,F_,F_,F_,F_,F_,F_,F_,F_,F_,F_,F_,F_,F_,F_,F_,F_,F_,F_,F_,F_,F_,F_,F_] rfl rfl (any_of HT_.out (by kernel_rfl)) (fun _ _ _ h => h) (Or.inl ⟨by rfl, ?_⟩) ?_ ?_
           rotate_left; (intro w'; go_simp; with_reducible rfl); rotate_left; (simp only [put_]; rfl)
           refine pure_ (i := 6) (N := some 77) (v := ?_) (a' := ?_) #[T_,T_,T_,T_,T_,T_,T_,F_,F_,F_,F_,F_,F_,F_,F_,F_,F_,F_,F_,F_,F_,F_,F_,F_,F_,F_,F_,F_,F_,F_] rfl rfl (any_of HT_.out (by kernel_rfl)) (fun _ _ _ h => h) (Or.inl ⟨by rfl, ?_⟩) ?_ ?_
           rotate_left; (intro w'; go_simp; with_reducible rfl); rotate_left; (simp only [put_]; rfl)
           refine pure_ (i := 7) (N := some 78) (v := ?_) (a' := ?_) #[T_,T_,T_,T_,T_,T_,T_,T_,F_,F_,F_,F_,F_,F_,F_,F_,F_,F_,F_,F_,F_,F_,F_,F_,F_,F_,F_,F_,F_,F_] rfl rfl (any_of HT_.out (by kernel_rfl)) (fun _ _ _ h => h) (Or.inl ⟨by rfl, ?_⟩) ?_ ?_
           rotate_left; (intro w'; go_simp; with_reducible rfl); rotate_left; (simp only [put_]; rfl)
           refine pure_ (i := 9) (N := some 80) (v := ?_) (a' := ?_) #[T_,T_,T_,T_,T_,T_,T_,T_,F_,T_,F_,F_,F_,F_,F_,F_,F_,F_,F_,F_,F_,F_,F_,F_,F_,F_,F_,F_,F_,F_] rfl rfl (any_of HT_.out (by kernel_rfl)) (fun _ _ _ h => h) (Or.inl ⟨by rfl, ?_⟩) ?_ ?_
           rotate_left; (intro w'; go_simp; with_reducible rfl); rotate_left; (simp only [put_]; rfl)
           refine take_ (i := 8) (N := some 79) (v := ?_) (a' := ?_) #[T_,T_,T_,T_,T_,T_,T_,T_,T_,T_,F_,F_,F_,F_,F_,F_,F_,F_,F_,F_,F_,F_,F_,F_,F_,F_,F_,F_,F_,F_] rfl rfl (take_ofW HT_.out HW_.out (by kernel_rfl)) (fun _ _ _ h => h) (Or.inl ⟨by rfl, ?_⟩) hHeld ?_ ?_
           rotate_left; (rintro w' ⟨s0, s1, s2, s3, s4, s5, s6, s7, s8, s9, s10, s11⟩; go_simp; with_reducible rfl); rotate_left; (simp only [put_]; rfl)
           refine take_ (i := 10) (N := some 81) (v := ?_) (a' := ?_) #[T_,T_,T_,T_,T_,T_,T_,T_,T_,T_,T_,F_,F_,F_,F_,F_,F_,F_,F_,F_,F_,F_,F_,F_,F_,F_,F_,F_,F_,F_] rfl rfl (take_ofW HT_.out HW_.out (by kernel_rfl)) (fun _ _ _ h => h) (Or.inl ⟨by rfl, ?_⟩) hHeld ?_ ?_
           rotate_left; (rintro w' ⟨s0, s1, s2, s3, s4, s5, s6, s7, s8, s9, s10, s11⟩; go_simp; with_reducible rfl); rotate_left; (simp only [put_]; rfl)
           refine pure_ (i := 11) (N := some 82) (v := ?_) (a' := ?_) #[T_,T_,T_,T_,T_,T_,T_,T_,T_,T_,T_,T_,F_,F_,F_,F_,F_,F_,F_,F_,F_,F_,F_,F_,F_,F_,F_,F_,F_,F_] rfl rfl (any_of HT_.out (by kernel_rfl)) (fun _ _ _ h => h) (Or.inl ⟨by rfl, ?_⟩) ?_ ?_
           rotate_left; (intro w'; go_simp; with_reducible rfl); rotate_left; (simp only [put_]; rfl)
           refine pure_ (i := 12) (N := some 83) (v := ?_) (a' := ?_) #[T_,T_,T_,T_,T_,T_,T_,T_,T_,T_,T_,T_,T_,F_,F_,F_,F_,F_,F_,F_,F_,F_,F_,F_,F_,F_,F_,F_,F_,F_] rfl rfl (any_of HT_.out (by kernel_rfl)) (fun _ _ _ h => h) (Or.inl ⟨by rfl, ?_⟩) ?_ ?_
           rotate_left; (intro w'; go_simp; with_reducible rfl); rotate_left; (simp only [put_]; rfl)
           refine pure_ (i := 13) (N := some 84) (v := ?_) (a' := ?_) #[T_,T_,T_,T_,T_,T_,T_,T_,T_,T_,T_,T_,T_,T_,F_,F_,F_,F_,F_,F_,F_,F_,F_,F_,F_,F_,F_,F_,F_,F_] rfl rfl (any_of HT_.out (by kernel_rfl)) (fun _ _ _ h => h) (Or.inl ⟨by rfl, ?_⟩) ?_ ?_
           rotate_left; (intro w'; go_simp; with_reducible rfl); rotate_left; (simp only [put_]; rfl)
           refine pure_ (i := 14) (N := some 85) (v := ?_) (a' := ?_) #[T_,T_,T_,T_,T_,T_,T_,T_,T_,T_,T_,T_,T_,T_,T_,F_,F_,F_,F_,F_,F_,F_,F_,F_,F_,F_,F_,F_,F_,F_] rfl rfl (any_of HT_.out (by kernel_rfl)) (fun _ _ _ h => h) (Or.inl ⟨by rfl, ?_⟩) ?_ ?_
           rotate_left; (intro w'; go_simp; with_reducible rfl); rotate_left; (simp only [put_]; rfl)
           refine pure_ (i := 16) (N := some 87) (v := ?_) (a' := ?_) #[T_,T_,T_,T_,T_,T_,T_,T_,T_,T_,T_,T_,T_,T_,T_,F_,T_,F_,F_,F_,F_,F_,F_,F_,F_,F_,F_,F_,F_,F_] rfl rfl (any_of HT_.out (by kernel_rfl)) (fun _ _ _ h => h) (Or.inl ⟨by rfl, ?_⟩) ?_ ?_
           rotate_left; (intro w'; go_simp; with_reducible rfl); rotate_left; (simp only [put_]; rfl)
           refine take_ (i := 15) (N := some 86) (v := ?_) (a' := ?_) #[T_,T_,T_,T_,T_,T_,T_,T_,T_,T_,T_,T_,T_,T_,T_,T_,T_,F_,F_,F_,F_,F_,F_,F_,F_,F_,F_,F_,F_,F_] rfl rfl (take_ofW HT_.out HW_.out (by kernel_rfl)) (fun _ _ _ h => h) (Or.inl ⟨by rfl, ?_⟩) hHeld ?_ ?_
           rotate_left; (rintro w' ⟨s0, s1, s2, s3, s4, s5, s6, s7, s8, s9, s10, s11⟩; go_simp; with_reducible rfl); rotate_left; (simp only [put_]; rfl)
           refine take_ (i := 17) (N := some 88) (v := ?_) (a' := ?_) #[T_,T_,T_,T_,T_,T_,T_,T_,T_,T_,T_,T_,T_,T_,T_,T_,T_,T_,F_,F_,F_,F_,F_,F_,F_,F_,F_,F_,F_,F_] rfl rfl (take_ofW HT_.out HW_.out (by kernel_rfl)) (fun _ _ _ h => h) (Or.inl ⟨by rfl, ?_⟩) hHeld ?_ ?_
           rotate_left; (rintro w' ⟨s0, s1, s2, s3, s4, s5, s6, s7, s8, s9, s10, s11⟩; go_simp; with_reducible rfl); rotate_left; (simp only [put_]; rfl)
           refine pure_ (i := 18) (N := some 89) (v := ?_) (a' := ?_) #[T_,T_,T_,T_,T_,T_,T_,T_,T_,T_,T_,T_,T_,T_,T_,T_,T_,T_,T_,F_,F_,F_,F_,F_,F_,F_,F_,F_,F_,F_] rfl rfl (any_of HT_.out (by kernel_rfl)) (fun _ _ _ h => h) (Or.inl ⟨by rfl, ?_⟩) ?_ ?_
           rotate_left; (intro w'; go_simp; with_reducible rfl); rotate_left; (simp only [put_]; rfl)
           refine pure_ (i := 19) (N := some 90) (v := ?_) (a' := ?_) #[T_,T_,T_,T_,T_,T_,T_,T_,T_,T_,T_,T_,T_,T_,T_,T_,T_,T_,T_,T_,F_,F_,F_,F_,F_,F_,F_,F_,F_,F_] rfl rfl (any_of HT_.out (by kernel_rfl)) (fun _ _ _ h => h) (Or.inl ⟨by rfl, ?_⟩) ?_ ?_
           rotate_left; (intro w'; go_simp; with_reducible rfl); rotate_left; (simp only [put_]; rfl)
           refine pure_ (i := 20) (N := some 91) (v := ?_) (a' := ?_) #[T_,T_,T_,T_,T_,T_,T_,T_,T_,T_,T_,T_,T_,T_,T_,T_,T_,T_,T_,T_,T_,F_,F_,F_,F_,F_,F_,F_,F_,F_] rfl rfl (any_of HT_.out (by kernel_rfl)) (fun _ _ _ h => h) (Or.inl ⟨by rfl, ?_⟩) ?_ ?_
           rotate_left; (intro w'; go_simp; with_reducible rfl); rotate_left; (simp only [put_]; rfl)
           refine pure_ (i := 21) (N := some 92) (v := ?_) (a' := ?_) #[T_,T_,T_,T_,T_,T_,T_,T_,T_,T_,T_,T_,T_,T_,T_,T_,T_,T_,T_,T_,T_,T_,F_,F_,F_,F_,F_,F_,F_,F_] rfl rfl (any_of HT_.out (by kernel_rfl)) (fun _ _ _ h => h) (Or.inl ⟨by rfl, ?_⟩) ?_ ?_
           rotate_left; (intro w'; go_simp; with_reducible rfl); rotate_left; (simp only [put_]; rfl)
           refine pure_ (i := 22) (N := some 93) (v := undef) (a' := ?_) #[T_,T_,T_,T_,T_,T_,T_,T_,T_,T_,T_,T_,T_,T_,T_,T_,T_,T_,T_,T_,T_,T_,T_,F_,F_,F_,F_,F_,F_,F_] rfl rfl (any_of HT_.out (by kernel_rfl)) (fun _ _ _ h => h) (Or.inr ⟨by rfl, rfl⟩) ?_ ?_
           rotate_left
           ·simp only [put_]
            rfl
           refine pure_ (i := 23) (N := some 94) (v := undef) (a' := ?_) #[T_,T_,T_,T_,T_,T_,T_,T_,T_,T_,T_,T_,T_,T_,T_,T_,T_,T_,T_,T_,T_,T_,T_,T_,F_,F_,F_,F_,F_,F_] rfl rfl (any_of HT_.out (by kernel_rfl)) (fun _ _ _ h => h) (Or.inr ⟨by rfl, rfl⟩) ?_ ?_
           rotate_left
           ·simp only [put_]
            rfl
           refine pure_ (i := 24) (N := some 95) (v := undef) (a' := ?_) #[T_,T_,T_,T_,T_,T_,T_,T_,T_,T_,T_,T_,T_,T_,T_,T_,T_,T_,T_,T_,T_,T_,T_,T_,T_,F_,F_,F_,F_,F_] rfl rfl (any_of HT_.out (by kernel_rfl)) (fun _ _ _ h => h) (Or.inr ⟨by rfl, rfl⟩) ?_ ?_
           rotate_left
           ·simp only [put_]
            rfl
           refine pure_ (i := 25) (N := some 96) (v := undef) (a' := ?_) #[T_,T_,T_,T_,T_,T_,T_,T_,T_,T_,T_,T_,T_,T_,T_,T_,T_,T_,T_,T_,T_,T_,T_,T_,T_,T_,F_,F_,F_,F_] rfl rfl (any_of HT_.out (by kernel_rfl)) (fun _ _ _ h => h) (Or.inr ⟨by rfl, rfl⟩) ?_ ?_
           rotate_left
           ·simp only [put_]
            rfl
           refine pure_ (i := 26) (N := some 97) (v := undef) (a' := ?_) #[T_,T_,T_,T_,T_,T_,T_,T_,T_,T_,T_,T_,T_,T_,T_,T_,T_,T_,T_,T_,T_,T_,T_,T_,T_,T_,T_,F_,F_,F_] rfl rfl (any_of HT_.out (by kernel_rfl)) (fun _ _ _ h => h) (Or.inr ⟨by rfl, rfl⟩) ?_ ?_
           rotate_left
           ·simp only [put_]
            rfl
           refine pure_ (i := 27) (N := some 98) (v := undef) (a' := ?_) #[T_,T_,T_,T_,T_,T_,T_,T_,T_,T_,T_,T_,T_,T_,T_,T_,T_,T_,T_,T_,T_,T_,T_,T_,T_,T_,T_,T_,F_,F_] rfl rfl (any_of HT_.out (by kernel_rfl)) (fun _ _ _ h => h) (Or.inr ⟨by rfl, rfl⟩) ?_ ?_
           rotate_left
           ·simp only [put_]
            rfl
           refine pure_ (i := 28) (N := some 99) (v := undef) (a' := ?_) #[T_,T_,T_,T_,T_,T_,T_,T_,T_,T_,T_,T_,T_,T_,T_,T_,T_,T_,T_,T_,T_,T_,T_,T_,T_,T_,T_,T_,T_,F_] rfl rfl (any_of HT_.out (by kernel_rfl)) (fun _ _ _ h => h) (Or.inr ⟨by rfl, rfl⟩) ?_ ?_
           rotate_left
           ·simp only [put_]
            rfl
           refine pure_ (i := 29) (N := some 100) (v := ?_) (a' := ?_) #[T_,T_,T_,T_,T_,T_,T_,T_,T_,T_,T_,T_,T_,T_,T_,T_,T_,T_,T_,T_,T_,T_,T_,T_,T_,T_,T_,T_,T_,T_] rfl rfl (any_of HT_.out (by kernel_rfl)) (fun _ _ _ h => h) (Or.inl ⟨by rfl, ?_⟩) ?_ ?_
           rotate_left; (intro w'; go_simp; with_reducible rfl); rotate_left; (simp only [put_]; rfl)
           refine done_ (done_of HT_.out (by kernel_rfl)) ?_
           try go_wp2
           go_meet
           case rel => exact ⟨_, (true), (by first | rfl | (simp; done) | (simp [*]; done)), H', ⟨by have := HJ24.out; have := HJ50.out; first | omega | exact Nat.le_refl _⟩, ⟨by exact BK172.out⟩, ⟨by exact BK173.out⟩, ⟨by exact BK174.out⟩, ⟨by exact BK192.out⟩, ⟨by repeat (first | (with_reducible first | exact HB.out | apply below_alloc | apply pw_below_drewN | apply below_drew1 | refine below_set ?_ GE172.out | refine below_set ?_ GE173.out | refine below_set ?_ GE174.out | refine below_set ?_ GE192.out) | exact HB.out)⟩⟩
          ·rw [if_neg c108] at H
           have c108b0 : (t193 != (decide (t189 ≤ t191))) = false := by simpa using c108
           (try (have c108b1 : decide (t193 = (decide (t189 ≤ t191))) = true := by simpa using c108))
           (try (have c108b2 : (t193 == (decide (t189 ≤ t191))) = true := by simpa using c108))
           clear c108
           replace H := Option.bind_eq_some_iff.mp H
           obtain ⟨t197, A1130, H⟩ := H
           replace H : ((rect_Meets.f a1_0 a1_1 a1_2 a1_3 a0_0 a0_1 a0_2 a0_3).bind fun t198 => (counterpanelaw04_RectWhole.j2 kj50 (t197 != t198) a0_0 a0_1 a0_2 a0_3 a1_0 a1_1 a1_2 a1_3 a2_0 a2_1 a2_2 a2_3)) = some r := H
           have A113 := Aside0.mk A1130
           clear A1130
           replace H := Option.bind_eq_some_iff.mp H
           obtain ⟨t198, A1140, H⟩ := H
           replace H : (counterpanelaw04_RectWhole.j2 kj50 (t197 != t198) a0_0 a0_1 a0_2 a0_3 a1_0 a1_1 a1_2 a1_3 a2_0 a2_1 a2_2 a2_3) = some r := H
           have A114 := Aside0.mk A1140
           clear A1140
           have H' := Aside0.mk H
           clear H
           try go_wp2
           have n0_ : Aside0 (((((w86.setCell ⟨gb192, 0, none⟩ (.int .u32 t188)).setCell ⟨gb192, 1, none⟩ (.int .u32 t189)).setCell ⟨gb192, 2, none⟩ (.int .u32 t190)).setCell ⟨gb192, 3, none⟩ (.int .u32 t191)).heap[gb172]? = some (.cells #[.int .u32 a0_0, .int .u32 a0_1, .int .u32 a0_2, .int .u32 a0_3] 24 (0, 0))) := ⟨by refine blk_far ?_ NB172_192.out _; refine blk_far ?_ NB172_192.out _; refine blk_far ?_ NB172_192.out _; refine blk_far ?_ NB172_192.out _; exact BK172.out⟩
           have n1_ : Aside0 (((((w86.setCell ⟨gb192, 0, none⟩ (.int .u32 t188)).setCell ⟨gb192, 1, none⟩ (.int .u32 t189)).setCell ⟨gb192, 2, none⟩ (.int .u32 t190)).setCell ⟨gb192, 3, none⟩ (.int .u32 t191)).heap[gb173]? = some (.cells #[.int .u32 a1_0, .int .u32 a1_1, .int .u32 a1_2, .int .u32 a1_3] 24 (0, 0))) := ⟨by refine blk_far ?_ NB173_192.out _; refine blk_far ?_ NB173_192.out _; refine blk_far ?_ NB173_192.out _; refine blk_far ?_ NB173_192.out _; exact BK173.out⟩
           have n2_ : Aside0 (((((w86.setCell ⟨gb192, 0, none⟩ (.int .u32 t188)).setCell ⟨gb192, 1, none⟩ (.int .u32 t189)).setCell ⟨gb192, 2, none⟩ (.int .u32 t190)).setCell ⟨gb192, 3, none⟩ (.int .u32 t191)).heap[gb174]? = some (.cells #[.int .u32 a2_0, .int .u32 a2_1, .int .u32 a2_2, .int .u32 a2_3] 24 (0, 0))) := ⟨by refine blk_far ?_ NB174_192.out _; refine blk_far ?_ NB174_192.out _; refine blk_far ?_ NB174_192.out _; refine blk_far ?_ NB174_192.out _; exact BK174.out⟩
           have n3_ : Aside0 (((((w86.setCell ⟨gb192, 0, none⟩ (.int .u32 t188)).setCell ⟨gb192, 1, none⟩ (.int .u32 t189)).setCell ⟨gb192, 2, none⟩ (.int .u32 t190)).setCell ⟨gb192, 3, none⟩ (.int .u32 t191)).heap[gb192]? = some (.cells #[.int .u32 t188, .int .u32 t189, .int .u32 t190, .int .u32 t191] 24 (0, 0))) := ⟨by refine blk_put (cs := #[.int .u32 t188, .int .u32 t189, .int .u32 t190, .int .u32 0]) ?_ 3 _ (by first | rfl | simp); refine blk_put (cs := #[.int .u32 t188, .int .u32 t189, .int .u32 0, .int .u32 0]) ?_ 2 _ (by first | rfl | simp); refine blk_put (cs := #[.int .u32 t188, .int .u32 0, .int .u32 0, .int .u32 0]) ?_ 1 _ (by first | rfl | simp); refine blk_put (cs := #[.int .u32 0, .int .u32 0, .int .u32 0, .int .u32 0]) ?_ 0 _ (by first | rfl | simp); exact BK192.out⟩
           have n4_ : Aside0 (Below w.heap.size w ((((w86.setCell ⟨gb192, 0, none⟩ (.int .u32 t188)).setCell ⟨gb192, 1, none⟩ (.int .u32 t189)).setCell ⟨gb192, 2, none⟩ (.int .u32 t190)).setCell ⟨gb192, 3, none⟩ (.int .u32 t191))) := ⟨by repeat (first | (with_reducible first | exact HB.out | apply below_alloc | apply pw_below_drewN | apply below_drew1 | refine below_set ?_ GE172.out | refine below_set ?_ GE173.out | refine below_set ?_ GE174.out | refine below_set ?_ GE192.out) | exact HB.out)⟩
           (try clear BK172)
           (try clear BK173)
           (try clear BK174)
           (try clear BK192)
           (try clear HB)
           generalize ((((w86.setCell ⟨gb192, 0, none⟩ (.int .u32 t188)).setCell ⟨gb192, 1, none⟩ (.int .u32 t189)).setCell ⟨gb192, 2, none⟩ (.int .u32 t190)).setCell ⟨gb192, 3, none⟩ (.int .u32 t191)) = w115 at n0_ n1_ n2_ n3_ n4_ ⊢
           have BK172 := n0_
           have BK173 := n1_
           have BK174 := n2_
           have BK192 := n3_
           have HB := n4_
           clear n0_ n1_ n2_ n3_ n4_
           replace BK172 := Aside0.mk (blk_drew BK172.out)
           replace BK173 := Aside0.mk (blk_drew BK173.out)
           replace BK174 := Aside0.mk (blk_drew BK174.out)
           replace BK192 := Aside0.mk (blk_drew BK192.out)
           replace HB := Aside0.mk (below_drew1 HB.out)
           refine start_ (n := 30) (S := fun w' => w'.cell? ⟨gb172, 0, none⟩ = some (.int .u32 a0_0) ∧ w'.cell? ⟨gb172, 1, none⟩ = some (.int .u32 a0_1) ∧ w'.cell? ⟨gb172, 2, none⟩ = some (.int .u32 a0_2) ∧ w'.cell? ⟨gb172, 3, none⟩ = some (.int .u32 a0_3) ∧ w'.cell? ⟨gb173, 0, none⟩ = some (.int .u32 a1_0) ∧ w'.cell? ⟨gb173, 1, none⟩ = some (.int .u32 a1_1) ∧ w'.cell? ⟨gb173, 2, none⟩ = some (.int .u32 a1_2) ∧ w'.cell? ⟨gb173, 3, none⟩ = some (.int .u32 a1_3) ∧ w'.cell? ⟨gb192, 0, none⟩ = some (.int .u32 t188) ∧ w'.cell? ⟨gb192, 1, none⟩ = some (.int .u32 t189) ∧ w'.cell? ⟨gb192, 2, none⟩ = some (.int .u32 t190) ∧ w'.cell? ⟨gb192, 3, none⟩ = some (.int .u32 t191)) (ds := []) #[F_,F_,F_,F_,F_,F_,F_,F_,F_,F_,F_,F_,F_,F_,F_,F_,F_,F_,F_,F_,F_,F_,F_,F_,F_,F_,F_,F_,F_,F_] (by kernel_rfl) rfl rfl ⟨(blk_cell BK172.out 0).trans rfl, (blk_cell BK172.out 1).trans rfl, (blk_cell BK172.out 2).trans rfl, (blk_cell BK172.out 3).trans rfl, (blk_cell BK173.out 0).trans rfl, (blk_cell BK173.out 1).trans rfl, (blk_cell BK173.out 2).trans rfl, (blk_cell BK173.out 3).trans rfl, (blk_cell BK192.out 0).trans rfl, (blk_cell BK192.out 1).trans rfl, (blk_cell BK192.out 2).trans rfl, (blk_cell BK192.out 3).trans rfl⟩ (fun hHeld => ?_); refine with_tabW counterpanelaw04_RectWhole.tab7 counterpanelaw04_RectWhole.bits7 (fun HT_ HW_ => ?_)
           generalize w115.drew = w116 at BK172 BK173 BK174 BK192 HB hHeld ⊢
           refine take_ (i := 0) (N := some 71) (v := ?_) (a' := ?_) #[T_,F_,F_,F_,F_,F_,F_,F_,F_,F_,F_,F_,F_,F_,F_,F_,F_,F_,F_,F_,F_,F_,F_,F_,F_,F_,F_,F_,F_,F_] rfl rfl (take_ofW HT_.out HW_.out (by kernel_rfl)) (fun _ _ _ h => h) (Or.inl ⟨by rfl, ?_⟩) hHeld ?_ ?_
           rotate_left; (rintro w' ⟨s0, s1, s2, s3, s4, s5, s6, s7, s8, s9, s10, s11⟩; go_simp; with_reducible rfl); rotate_left; (simp only [put_]; rfl)
           refine take_ (i := 1) (N := some 72) (v := ?_) (a' := ?_) #[T_,T_,F_,F_,F_,F_,F_,F_,F_,F_,F_,F_,F_,F_,F_,F_,F_,F_,F_,F_,F_,F_,F_,F_,F_,F_,F_,F_,F_,F_] rfl rfl (take_ofW HT_.out HW_.out (by kernel_rfl)) (fun _ _ _ h => h) (Or.inl ⟨by rfl, ?_⟩) hHeld ?_ ?_
           rotate_left; (rintro w' ⟨s0, s1, s2, s3, s4, s5, s6, s7, s8, s9, s10, s11⟩; go_simp; with_reducible rfl); rotate_left; (simp only [put_]; rfl)
           refine take_ (i := 3) (N := some 74) (v := ?_) (a' := ?_) #[T_,T_,F_,T_,F_,F_,F_,F_,F_,F_,F_,F_,F_,F_,F_,F_,F_,F_,F_,F_,F_,F_,F_,F_,F_,F_,F_,F_,F_,F_] rfl rfl (take_ofW HT_.out HW_.out (by kernel_rfl)) (fun _ _ _ h => h) (Or.inl ⟨by rfl, ?_⟩) hHeld ?_ ?_
           rotate_left; (rintro w' ⟨s0, s1, s2, s3, s4, s5, s6, s7, s8, s9, s10, s11⟩; go_simp; with_reducible rfl); rotate_left; (simp only [put_]; rfl)
           refine one_ (i := 2) (N := some 73) #[T_,T_,T_,T_,F_,F_,F_,F_,F_,F_,F_,F_,F_,F_,F_,F_,F_,F_,F_,F_,F_,F_,F_,F_,F_,F_,F_,F_,F_,F_] rfl rfl (one_of HT_.out (by kernel_rfl)) (by decide) (fun K hK => ?_)
           refine goes_ Try.func11 (by kernel_rfl) rfl #[.agg #[.int .u32 a0_0, .int .u32 a0_1, .int .u32 a0_2, .int .u32 a0_3], .agg #[.int .u32 a1_0, .int .u32 a1_1, .int .u32 a1_2, .int .u32 a1_3]] (by rfl) rfl rfl (by (try simp only [List.map_toArray, List.map_cons, List.map_nil]); first | done | rfl | (simp only [List.length_drop, List.length_take]; rfl) | (simp; done)) ?_
           with_reducible refine (rect_Meets.calls a0_0 a0_1 a0_2 a0_3 a1_0 a1_1 a1_2 a1_3 t193 _ A91.out).mono ?_
           rintro e w117 ⟨rfl, hb⟩
           refine ⟨_, rfl, ?_⟩
           replace BK172 := Aside0.mk (blk_below BK172.out hb)
           replace BK173 := Aside0.mk (blk_below BK173.out hb)
           replace BK174 := Aside0.mk (blk_below BK174.out hb)
           replace BK192 := Aside0.mk (blk_below BK192.out hb)
           replace HB := Aside0.mk (below_step (by repeat (first | (with_reducible first | exact HB.out | apply below_alloc | apply pw_below_drewN | apply below_drew1 | refine below_set ?_ GE172.out | refine below_set ?_ GE173.out | refine below_set ?_ GE174.out | refine below_set ?_ GE192.out) | exact HB.out)) hb)
           refine hK.out _ _ ⟨(blk_cell BK172.out 0).trans rfl, (blk_cell BK172.out 1).trans rfl, (blk_cell BK172.out 2).trans rfl, (blk_cell BK172.out 3).trans rfl, (blk_cell BK173.out 0).trans rfl, (blk_cell BK173.out 1).trans rfl, (blk_cell BK173.out 2).trans rfl, (blk_cell BK173.out 3).trans rfl, (blk_cell BK192.out 0).trans rfl, (blk_cell BK192.out 1).trans rfl, (blk_cell BK192.out 2).trans rfl, (blk_cell BK192.out 3).trans rfl⟩ (fun hHeld => ?_)
           clear hK K
           refine norm_ (a' := ?_) ?_ ?_
           rotate_left
           ·show Act.put _ (some 73) _ = _
            simp only [put_]
            rfl
           refine one_ (i := 4) (N := some 75) #[T_,T_,T_,T_,T_,F_,F_,F_,F_,F_,F_,F_,F_,F_,F_,F_,F_,F_,F_,F_,F_,F_,F_,F_,F_,F_,F_,F_,F_,F_] rfl rfl (one_of HT_.out (by kernel_rfl)) (by decide) (fun K hK => ?_)
           refine goes_ Try.func10 (by kernel_rfl) rfl #[.agg #[.int .u32 a1_0, .int .u32 a1_1, .int .u32 a1_2, .int .u32 a1_3]] (by rfl) rfl rfl (by (try simp only [List.map_toArray, List.map_cons, List.map_nil]); first | done | rfl | (simp only [List.length_drop, List.length_take]; rfl) | (simp; done)) ?_
           with_reducible refine (rect_Empty.calls a1_0 a1_1 a1_2 a1_3 false _ A92.out).mono ?_
           rintro e w118 ⟨rfl, hb⟩
           refine ⟨_, rfl, ?_⟩
           replace BK172 := Aside0.mk (blk_below BK172.out hb)
           replace BK173 := Aside0.mk (blk_below BK173.out hb)
           replace BK174 := Aside0.mk (blk_below BK174.out hb)
           replace BK192 := Aside0.mk (blk_below BK192.out hb)
           replace HB := Aside0.mk (below_step (by repeat (first | (with_reducible first | exact HB.out | apply below_alloc | apply pw_below_drewN | apply below_drew1 | refine below_set ?_ GE172.out | refine below_set ?_ GE173.out | refine below_set ?_ GE174.out | refine below_set ?_ GE192.out) | exact HB.out)) hb)
           refine hK.out _ _ ⟨(blk_cell BK172.out 0).trans rfl, (blk_cell BK172.out 1).trans rfl, (blk_cell BK172.out 2).trans rfl, (blk_cell BK172.out 3).trans rfl, (blk_cell BK173.out 0).trans rfl, (blk_cell BK173.out 1).trans rfl, (blk_cell BK173.out 2).trans rfl, (blk_cell BK173.out 3).trans rfl, (blk_cell BK192.out 0).trans rfl, (blk_cell BK192.out 1).trans rfl, (blk_cell BK192.out 2).trans rfl, (blk_cell BK192.out 3).trans rfl⟩ (fun hHeld => ?_)
           clear hK K
           refine norm_ (a' := ?_) ?_ ?_
           rotate_left
           ·show Act.put _ (some 75) _ = _
            simp only [put_]
            rfl
           refine pure_ (i := 5) (N := some 76) (v := ?_) (a' := ?_) #[T_,T_,T_,T_,T_,T_,F_,F_,F_,F_,F_,F_,F_,F_,F_,F_,F_,F_,F_,F_,F_,F_,F_,F_,F_,F_,F_,F_,F_,F_] rfl rfl (any_of HT_.out (by kernel_rfl)) (fun _ _ _ h => h) (Or.inl ⟨by rfl, ?_⟩) ?_ ?_
           rotate_left; (intro w'; go_simp; with_reducible rfl); rotate_left; (simp only [put_]; rfl)
           refine pure_ (i := 6) (N := some 77) (v := ?_) (a' := ?_) #[T_,T_,T_,T_,T_,T_,T_,F_,F_,F_,F_,F_,F_,F_,F_,F_,F_,F_,F_,F_,F_,F_,F_,F_,F_,F_,F_,F_,F_,F_] rfl rfl (any_of HT_.out (by kernel_rfl)) (fun _ _ _ h => h) (Or.inl ⟨by rfl, ?_⟩) ?_ ?_
           rotate_left; (intro w'; go_simp; with_reducible rfl); rotate_left; (simp only [put_]; rfl)
           refine pure_ (i := 7) (N := some 78) (v := ?_) (a' := ?_) #[T_,T_,T_,T_,T_,T_,T_,T_,F_,F_,F_,F_,F_,F_,F_,F_,F_,F_,F_,F_,F_,F_,F_,F_,F_,F_,F_,F_,F_,F_] rfl rfl (any_of HT_.out (by kernel_rfl)) (fun _ _ _ h => h) (Or.inl ⟨by rfl, ?_⟩) ?_ ?_
           rotate_left; (intro w'; go_simp; with_reducible rfl); rotate_left; (simp only [put_]; rfl)
           refine pure_ (i := 9) (N := some 80) (v := ?_) (a' := ?_) #[T_,T_,T_,T_,T_,T_,T_,T_,F_,T_,F_,F_,F_,F_,F_,F_,F_,F_,F_,F_,F_,F_,F_,F_,F_,F_,F_,F_,F_,F_] rfl rfl (any_of HT_.out (by kernel_rfl)) (fun _ _ _ h => h) (Or.inl ⟨by rfl, ?_⟩) ?_ ?_
           rotate_left; (intro w'; go_simp; with_reducible rfl); rotate_left; (simp only [put_]; rfl)
           refine take_ (i := 8) (N := some 79) (v := ?_) (a' := ?_) #[T_,T_,T_,T_,T_,T_,T_,T_,T_,T_,F_,F_,F_,F_,F_,F_,F_,F_,F_,F_,F_,F_,F_,F_,F_,F_,F_,F_,F_,F_] rfl rfl (take_ofW HT_.out HW_.out (by kernel_rfl)) (fun _ _ _ h => h) (Or.inl ⟨by rfl, ?_⟩) hHeld ?_ ?_
           rotate_left; (rintro w' ⟨s0, s1, s2, s3, s4, s5, s6, s7, s8, s9, s10, s11⟩; go_simp; with_reducible rfl); rotate_left; (simp only [put_]; rfl)
           refine take_ (i := 10) (N := some 81) (v := ?_) (a' := ?_) #[T_,T_,T_,T_,T_,T_,T_,T_,T_,T_,T_,F_,F_,F_,F_,F_,F_,F_,F_,F_,F_,F_,F_,F_,F_,F_,F_,F_,F_,F_] rfl rfl (take_ofW HT_.out HW_.out (by kernel_rfl)) (fun _ _ _ h => h) (Or.inl ⟨by rfl, ?_⟩) hHeld ?_ ?_
           rotate_left; (rintro w' ⟨s0, s1, s2, s3, s4, s5, s6, s7, s8, s9, s10, s11⟩; go_simp; with_reducible rfl); rotate_left; (simp only [put_]; rfl)
           refine pure_ (i := 11) (N := some 82) (v := ?_) (a' := ?_) #[T_,T_,T_,T_,T_,T_,T_,T_,T_,T_,T_,T_,F_,F_,F_,F_,F_,F_,F_,F_,F_,F_,F_,F_,F_,F_,F_,F_,F_,F_] rfl rfl (any_of HT_.out (by kernel_rfl)) (fun _ _ _ h => h) (Or.inl ⟨by rfl, ?_⟩) ?_ ?_
           rotate_left; (intro w'; go_simp; with_reducible rfl); rotate_left; (simp only [put_]; rfl)
           refine pure_ (i := 12) (N := some 83) (v := ?_) (a' := ?_) #[T_,T_,T_,T_,T_,T_,T_,T_,T_,T_,T_,T_,T_,F_,F_,F_,F_,F_,F_,F_,F_,F_,F_,F_,F_,F_,F_,F_,F_,F_] rfl rfl (any_of HT_.out (by kernel_rfl)) (fun _ _ _ h => h) (Or.inl ⟨by rfl, ?_⟩) ?_ ?_
           rotate_left; (intro w'; go_simp; with_reducible rfl); rotate_left; (simp only [put_]; rfl)
           refine pure_ (i := 13) (N := some 84) (v := ?_) (a' := ?_) #[T_,T_,T_,T_,T_,T_,T_,T_,T_,T_,T_,T_,T_,T_,F_,F_,F_,F_,F_,F_,F_,F_,F_,F_,F_,F_,F_,F_,F_,F_] rfl rfl (any_of HT_.out (by kernel_rfl)) (fun _ _ _ h => h) (Or.inl ⟨by rfl, ?_⟩) ?_ ?_
           rotate_left; (intro w'; go_simp; with_reducible rfl); rotate_left; (simp only [put_]; rfl)
           refine pure_ (i := 14) (N := some 85) (v := ?_) (a' := ?_) #[T_,T_,T_,T_,T_,T_,T_,T_,T_,T_,T_,T_,T_,T_,T_,F_,F_,F_,F_,F_,F_,F_,F_,F_,F_,F_,F_,F_,F_,F_] rfl rfl (any_of HT_.out (by kernel_rfl)) (fun _ _ _ h => h) (Or.inl ⟨by rfl, ?_⟩) ?_ ?_
           rotate_left; (intro w'; go_simp; with_reducible rfl); rotate_left; (simp only [put_]; rfl)
           refine pure_ (i := 16) (N := some 87) (v := ?_) (a' := ?_) #[T_,T_,T_,T_,T_,T_,T_,T_,T_,T_,T_,T_,T_,T_,T_,F_,T_,F_,F_,F_,F_,F_,F_,F_,F_,F_,F_,F_,F_,F_] rfl rfl (any_of HT_.out (by kernel_rfl)) (fun _ _ _ h => h) (Or.inl ⟨by rfl, ?_⟩) ?_ ?_
           rotate_left; (intro w'; go_simp; with_reducible rfl); rotate_left; (simp only [put_]; rfl)
           refine take_ (i := 15) (N := some 86) (v := ?_) (a' := ?_) #[T_,T_,T_,T_,T_,T_,T_,T_,T_,T_,T_,T_,T_,T_,T_,T_,T_,F_,F_,F_,F_,F_,F_,F_,F_,F_,F_,F_,F_,F_] rfl rfl (take_ofW HT_.out HW_.out (by kernel_rfl)) (fun _ _ _ h => h) (Or.inl ⟨by rfl, ?_⟩) hHeld ?_ ?_
           rotate_left; (rintro w' ⟨s0, s1, s2, s3, s4, s5, s6, s7, s8, s9, s10, s11⟩; go_simp; with_reducible rfl); rotate_left; (simp only [put_]; rfl)
           refine take_ (i := 17) (N := some 88) (v := ?_) (a' := ?_) #[T_,T_,T_,T_,T_,T_,T_,T_,T_,T_,T_,T_,T_,T_,T_,T_,T_,T_,F_,F_,F_,F_,F_,F_,F_,F_,F_,F_,F_,F_] rfl rfl (take_ofW HT_.out HW_.out (by kernel_rfl)) (fun _ _ _ h => h) (Or.inl ⟨by rfl, ?_⟩) hHeld ?_ ?_
           rotate_left; (rintro w' ⟨s0, s1, s2, s3, s4, s5, s6, s7, s8, s9, s10, s11⟩; go_simp; with_reducible rfl); rotate_left; (simp only [put_]; rfl)
           refine pure_ (i := 18) (N := some 89) (v := ?_) (a' := ?_) #[T_,T_,T_,T_,T_,T_,T_,T_,T_,T_,T_,T_,T_,T_,T_,T_,T_,T_,T_,F_,F_,F_,F_,F_,F_,F_,F_,F_,F_,F_] rfl rfl (any_of HT_.out (by kernel_rfl)) (fun _ _ _ h => h) (Or.inl ⟨by rfl, ?_⟩) ?_ ?_
           rotate_left; (intro w'; go_simp; with_reducible rfl); rotate_left; (simp only [put_]; rfl)
           refine pure_ (i := 19) (N := some 90) (v := ?_) (a' := ?_) #[T_,T_,T_,T_,T_,T_,T_,T_,T_,T_,T_,T_,T_,T_,T_,T_,T_,T_,T_,T_,F_,F_,F_,F_,F_,F_,F_,F_,F_,F_] rfl rfl (any_of HT_.out (by kernel_rfl)) (fun _ _ _ h => h) (Or.inl ⟨by rfl, ?_⟩) ?_ ?_
           rotate_left; (intro w'; go_simp; with_reducible rfl); rotate_left; (simp only [put_]; rfl)
           refine pure_ (i := 20) (N := some 91) (v := ?_) (a' := ?_) #[T_,T_,T_,T_,T_,T_,T_,T_,T_,T_,T_,T_,T_,T_,T_,T_,T_,T_,T_,T_,T_,F_,F_,F_,F_,F_,F_,F_,F_,F_] rfl rfl (any_of HT_.out (by kernel_rfl)) (fun _ _ _ h => h) (Or.inl ⟨by rfl, ?_⟩) ?_ ?_
           rotate_left; (intro w'; go_simp; with_reducible rfl); rotate_left; (simp only [put_]; rfl)
           refine pure_ (i := 21) (N := some 92) (v := ?_) (a' := ?_) #[T_,T_,T_,T_,T_,T_,T_,T_,T_,T_,T_,T_,T_,T_,T_,T_,T_,T_,T_,T_,T_,T_,F_,F_,F_,F_,F_,F_,F_,F_] rfl rfl (any_of HT_.out (by kernel_rfl)) (fun _ _ _ h => h) (Or.inl ⟨by rfl, ?_⟩) ?_ ?_
           rotate_left; (intro w'; go_simp; with_reducible rfl); rotate_left; (simp only [put_]; rfl)
           refine take_ (i := 22) (N := some 93) (v := ?_) (a' := ?_) #[T_,T_,T_,T_,T_,T_,T_,T_,T_,T_,T_,T_,T_,T_,T_,T_,T_,T_,T_,T_,T_,T_,T_,F_,F_,F_,F_,F_,F_,F_] rfl rfl (take_ofW HT_.out HW_.out (by kernel_rfl)) (fun _ _ _ h => h) (Or.inl ⟨by rfl, ?_⟩) hHeld ?_ ?_
           rotate_left; (rintro w' ⟨s0, s1, s2, s3, s4, s5, s6, s7, s8, s9, s10, s11⟩; go_simp; with_reducible rfl); rotate_left; (simp only [put_]; rfl)
           refine take_ (i := 23) (N := some 94) (v := ?_) (a' := ?_) #[T_,T_,T_,T_,T_,T_,T_,T_,T_,T_,T_,T_,T_,T_,T_,T_,T_,T_,T_,T_,T_,T_,T_,T_,F_,F_,F_,F_,F_,F_] rfl rfl (take_ofW HT_.out HW_.out (by kernel_rfl)) (fun _ _ _ h => h) (Or.inl ⟨by rfl, ?_⟩) hHeld ?_ ?_
           rotate_left; (rintro w' ⟨s0, s1, s2, s3, s4, s5, s6, s7, s8, s9, s10, s11⟩; go_simp; with_reducible rfl); rotate_left; (simp only [put_]; rfl)
           refine take_ (i := 25) (N := some 96) (v := ?_) (a' := ?_) #[T_,T_,T_,T_,T_,T_,T_,T_,T_,T_,T_,T_,T_,T_,T_,T_,T_,T_,T_,T_,T_,T_,T_,T_,F_,T_,F_,F_,F_,F_] rfl rfl (take_ofW HT_.out HW_.out (by kernel_rfl)) (fun _ _ _ h => h) (Or.inl ⟨by rfl, ?_⟩) hHeld ?_ ?_
           rotate_left; (rintro w' ⟨s0, s1, s2, s3, s4, s5, s6, s7, s8, s9, s10, s11⟩; go_simp; with_reducible rfl); rotate_left; (simp only [put_]; rfl)
           refine take_ (i := 26) (N := some 97) (v := ?_) (a' := ?_) #[T_,T_,T_,T_,T_,T_,T_,T_,T_,T_,T_,T_,T_,T_,T_,T_,T_,T_,T_,T_,T_,T_,T_,T_,F_,T_,T_,F_,F_,F_] rfl rfl (take_ofW HT_.out HW_.out (by kernel_rfl)) (fun _ _ _ h => h) (Or.inl ⟨by rfl, ?_⟩) hHeld ?_ ?_
           rotate_left; (rintro w' ⟨s0, s1, s2, s3, s4, s5, s6, s7, s8, s9, s10, s11⟩; go_simp; with_reducible rfl); rotate_left; (simp only [put_]; rfl)
           refine one_ (i := 24) (N := some 95) #[T_,T_,T_,T_,T_,T_,T_,T_,T_,T_,T_,T_,T_,T_,T_,T_,T_,T_,T_,T_,T_,T_,T_,T_,T_,T_,T_,F_,F_,F_] rfl rfl (one_of HT_.out (by kernel_rfl)) (by decide) (fun K hK => ?_)
           refine goes_ Try.func11 (by kernel_rfl) rfl #[.agg #[.int .u32 a0_0, .int .u32 a0_1, .int .u32 a0_2, .int .u32 a0_3], .agg #[.int .u32 a1_0, .int .u32 a1_1, .int .u32 a1_2, .int .u32 a1_3]] (by rfl) rfl rfl (by (try simp only [List.map_toArray, List.map_cons, List.map_nil]); first | done | rfl | (simp only [List.length_drop, List.length_take]; rfl) | (simp; done)) ?_
           with_reducible refine (rect_Meets.calls a0_0 a0_1 a0_2 a0_3 a1_0 a1_1 a1_2 a1_3 t197 _ A113.out).mono ?_
           rintro e w119 ⟨rfl, hb⟩
           refine ⟨_, rfl, ?_⟩
           replace BK172 := Aside0.mk (blk_below BK172.out hb)
           replace BK173 := Aside0.mk (blk_below BK173.out hb)
           replace BK174 := Aside0.mk (blk_below BK174.out hb)
           replace BK192 := Aside0.mk (blk_below BK192.out hb)
           replace HB := Aside0.mk (below_step (by repeat (first | (with_reducible first | exact HB.out | apply below_alloc | apply pw_below_drewN | apply below_drew1 | refine below_set ?_ GE172.out | refine below_set ?_ GE173.out | refine below_set ?_ GE174.out | refine below_set ?_ GE192.out) | exact HB.out)) hb)
           refine hK.out _ _ ⟨(blk_cell BK172.out 0).trans rfl, (blk_cell BK172.out 1).trans rfl, (blk_cell BK172.out 2).trans rfl, (blk_cell BK172.out 3).trans rfl, (blk_cell BK173.out 0).trans rfl, (blk_cell BK173.out 1).trans rfl, (blk_cell BK173.out 2).trans rfl, (blk_cell BK173.out 3).trans rfl, (blk_cell BK192.out 0).trans rfl, (blk_cell BK192.out 1).trans rfl, (blk_cell BK192.out 2).trans rfl, (blk_cell BK192.out 3).trans rfl⟩ (fun hHeld => ?_)
           clear hK K
           refine norm_ (a' := ?_) ?_ ?_
           rotate_left
           ·show Act.put _ (some 95) _ = _
            simp only [put_]
            rfl
           refine one_ (i := 27) (N := some 98) #[T_,T_,T_,T_,T_,T_,T_,T_,T_,T_,T_,T_,T_,T_,T_,T_,T_,T_,T_,T_,T_,T_,T_,T_,T_,T_,T_,T_,F_,F_] rfl rfl (one_of HT_.out (by kernel_rfl)) (by decide) (fun K hK => ?_)
           refine goes_ Try.func11 (by kernel_rfl) rfl #[.agg #[.int .u32 a1_0, .int .u32 a1_1, .int .u32 a1_2, .int .u32 a1_3], .agg #[.int .u32 a0_0, .int .u32 a0_1, .int .u32 a0_2, .int .u32 a0_3]] (by rfl) rfl rfl (by (try simp only [List.map_toArray, List.map_cons, List.map_nil]); first | done | rfl | (simp only [List.length_drop, List.length_take]; rfl) | (simp; done)) ?_
           with_reducible refine (rect_Meets.calls a1_0 a1_1 a1_2 a1_3 a0_0 a0_1 a0_2 a0_3 t198 _ A114.out).mono ?_
           rintro e w120 ⟨rfl, hb⟩
           refine ⟨_, rfl, ?_⟩
           replace BK172 := Aside0.mk (blk_below BK172.out hb)
           replace BK173 := Aside0.mk (blk_below BK173.out hb)
           replace BK174 := Aside0.mk (blk_below BK174.out hb)
           replace BK192 := Aside0.mk (blk_below BK192.out hb)
           replace HB := Aside0.mk (below_step (by repeat (first | (with_reducible first | exact HB.out | apply below_alloc | apply pw_below_drewN | apply below_drew1 | refine below_set ?_ GE172.out | refine below_set ?_ GE173.out | refine below_set ?_ GE174.out | refine below_set ?_ GE192.out) | exact HB.out)) hb)
           refine hK.out _ _ ⟨(blk_cell BK172.out 0).trans rfl, (blk_cell BK172.out 1).trans rfl, (blk_cell BK172.out 2).trans rfl, (blk_cell BK172.out 3).trans rfl, (blk_cell BK173.out 0).trans rfl, (blk_cell BK173.out 1).trans rfl, (blk_cell BK173.out 2).trans rfl, (blk_cell BK173.out 3).trans rfl, (blk_cell BK192.out 0).trans rfl, (blk_cell BK192.out 1).trans rfl, (blk_cell BK192.out 2).trans rfl, (blk_cell BK192.out 3).trans rfl⟩ (fun hHeld => ?_)
           clear hK K
           refine norm_ (a' := ?_) ?_ ?_
           rotate_left
           ·show Act.put _ (some 98) _ = _
            simp only [put_]
            rfl
           refine pure_ (i := 28) (N := some 99) (v := ?_) (a' := ?_) #[T_,T_,T_,T_,T_,T_,T_,T_,T_,T_,T_,T_,T_,T_,T_,T_,T_,T_,T_,T_,T_,T_,T_,T_,T_,T_,T_,T_,T_,F_] rfl rfl (any_of HT_.out (by kernel_rfl)) (fun _ _ _ h => h) (Or.inl ⟨by rfl, ?_⟩) ?_ ?_
           rotate_left; (intro w'; go_simp; with_reducible rfl); rotate_left; (simp only [put_]; rfl)
           refine pure_ (i := 29) (N := some 100) (v := ?_) (a' := ?_) #[T_,T_,T_,T_,T_,T_,T_,T_,T_,T_,T_,T_,T_,T_,T_,T_,T_,T_,T_,T_,T_,T_,T_,T_,T_,T_,T_,T_,T_,T_] rfl rfl (any_of HT_.out (by kernel_rfl)) (fun _ _ _ h => h) (Or.inl ⟨by rfl, ?_⟩) ?_ ?_
           rotate_left; (intro w'; go_simp; with_reducible rfl); rotate_left; (simp only [put_]; rfl)
           refine done_ (done_of HT_.out (by kernel_rfl)) ?_
           try go_wp2
           go_meet
           case rel => exact ⟨_, ((t197 != t198)), (by first | rfl | (simp; done) | (simp [*]; done)), H', ⟨by have := HJ24.out; have := HJ50.out; first | omega | exact Nat.le_refl _⟩, ⟨by exact BK172.out⟩, ⟨by exact BK173.out⟩, ⟨by exact BK174.out⟩, ⟨by exact BK192.out⟩, ⟨by repeat (first | (with_reducible first | exact HB.out | apply below_alloc | apply pw_below_drewN | apply below_drew1 | refine below_set ?_ GE172.out | refine below_set ?_ GE173.out | refine below_set ?_ GE174.out | refine below_set ?_ GE192.out) | exact HB.out)⟩⟩
         ·rw [if_neg c107] at H
          have c107b0 : decide (t188 ≤ t190) = false := decide_eq_false c107
          clear c107
          by_cases c121 : (t193 != false) = true
          ·rw [if_pos c121] at H
           have c121b0 : (t193 != false) = true := c121
           (try (have c121b1 : decide (t193 = false) = false := by simpa using c121))
           (try (have c121b2 : (t193 == false) = false := by simpa using c121))
           (try (have c121b3 : ¬ (t193 = false) := by simpa using c121))
           clear c121
           have H' := Aside0.mk H
           clear H
           try go_wp2
           have n0_ : Aside0 (((((w86.setCell ⟨gb192, 0, none⟩ (.int .u32 t188)).setCell ⟨gb192, 1, none⟩ (.int .u32 t189)).setCell ⟨gb192, 2, none⟩ (.int .u32 t190)).setCell ⟨gb192, 3, none⟩ (.int .u32 t191)).heap[gb172]? = some (.cells #[.int .u32 a0_0, .int .u32 a0_1, .int .u32 a0_2, .int .u32 a0_3] 24 (0, 0))) := ⟨by refine blk_far ?_ NB172_192.out _; refine blk_far ?_ NB172_192.out _; refine blk_far ?_ NB172_192.out _; refine blk_far ?_ NB172_192.out _; exact BK172.out⟩
           have n1_ : Aside0 (((((w86.setCell ⟨gb192, 0, none⟩ (.int .u32 t188)).setCell ⟨gb192, 1, none⟩ (.int .u32 t189)).setCell ⟨gb192, 2, none⟩ (.int .u32 t190)).setCell ⟨gb192, 3, none⟩ (.int .u32 t191)).heap[gb173]? = some (.cells #[.int .u32 a1_0, .int .u32 a1_1, .int .u32 a1_2, .int .u32 a1_3] 24 (0, 0))) := ⟨by refine blk_far ?_ NB173_192.out _; refine blk_far ?_ NB173_192.out _; refine blk_far ?_ NB173_192.out _; refine blk_far ?_ NB173_192.out _; exact BK173.out⟩
           have n2_ : Aside0 (((((w86.setCell ⟨gb192, 0, none⟩ (.int .u32 t188)).setCell ⟨gb192, 1, none⟩ (.int .u32 t189)).setCell ⟨gb192, 2, none⟩ (.int .u32 t190)).setCell ⟨gb192, 3, none⟩ (.int .u32 t191)).heap[gb174]? = some (.cells #[.int .u32 a2_0, .int .u32 a2_1, .int .u32 a2_2, .int .u32 a2_3] 24 (0, 0))) := ⟨by refine blk_far ?_ NB174_192.out _; refine blk_far ?_ NB174_192.out _; refine blk_far ?_ NB174_192.out _; refine blk_far ?_ NB174_192.out _; exact BK174.out⟩
           have n3_ : Aside0 (((((w86.setCell ⟨gb192, 0, none⟩ (.int .u32 t188)).setCell ⟨gb192, 1, none⟩ (.int .u32 t189)).setCell ⟨gb192, 2, none⟩ (.int .u32 t190)).setCell ⟨gb192, 3, none⟩ (.int .u32 t191)).heap[gb192]? = some (.cells #[.int .u32 t188, .int .u32 t189, .int .u32 t190, .int .u32 t191] 24 (0, 0))) := ⟨by refine blk_put (cs := #[.int .u32 t188, .int .u32 t189, .int .u32 t190, .int .u32 0]) ?_ 3 _ (by first | rfl | simp); refine blk_put (cs := #[.int .u32 t188, .int .u32 t189, .int .u32 0, .int .u32 0]) ?_ 2 _ (by first | rfl | simp); refine blk_put (cs := #[.int .u32 t188, .int .u32 0, .int .u32 0, .int .u32 0]) ?_ 1 _ (by first | rfl | simp); refine blk_put (cs := #[.int .u32 0, .int .u32 0, .int .u32 0, .int .u32 0]) ?_ 0 _ (by first | rfl | simp); exact BK192.out⟩
           have n4_ : Aside0 (Below w.heap.size w ((((w86.setCell ⟨gb192, 0, none⟩ (.int .u32 t188)).setCell ⟨gb192, 1, none⟩ (.int .u32 t189)).setCell ⟨gb192, 2, none⟩ (.int .u32 t190)).setCell ⟨gb192, 3, none⟩ (.int .u32 t191))) := ⟨by repeat (first | (with_reducible first | exact HB.out | apply below_alloc | apply pw_below_drewN | apply below_drew1 | refine below_set ?_ GE172.out | refine below_set ?_ GE173.out | refine below_set ?_ GE174.out | refine below_set ?_ GE192.out) | exact HB.out)⟩
           (try clear BK172)
           (try clear BK173)
           (try clear BK174)
           (try clear BK192)
           (try clear HB)
           generalize ((((w86.setCell ⟨gb192, 0, none⟩ (.int .u32 t188)).setCell ⟨gb192, 1, none⟩ (.int .u32 t189)).setCell ⟨gb192, 2, none⟩ (.int .u32 t190)).setCell ⟨gb192, 3, none⟩ (.int .u32 t191)) = w122 at n0_ n1_ n2_ n3_ n4_ ⊢
           have BK172 := n0_
           have BK173 := n1_
           have BK174 := n2_
           have BK192 := n3_
           have HB := n4_
           clear n0_ n1_ n2_ n3_ n4_
           replace BK172 := Aside0.mk (blk_drew BK172.out)
           replace BK173 := Aside0.mk (blk_drew BK173.out)
           replace BK174 := Aside0.mk (blk_drew BK174.out)
           replace BK192 := Aside0.mk (blk_drew BK192.out)
           replace HB := Aside0.mk (below_drew1 HB.out)
           refine start_ (n := 30) (S := fun w' => w'.cell? ⟨gb172, 0, none⟩ = some (.int .u32 a0_0) ∧ w'.cell? ⟨gb172, 1, none⟩ = some (.int .u32 a0_1) ∧ w'.cell? ⟨gb172, 2, none⟩ = some (.int .u32 a0_2) ∧ w'.cell? ⟨gb172, 3, none⟩ = some (.int .u32 a0_3) ∧ w'.cell? ⟨gb173, 0, none⟩ = some (.int .u32 a1_0) ∧ w'.cell? ⟨gb173, 1, none⟩ = some (.int .u32 a1_1) ∧ w'.cell? ⟨gb173, 2, none⟩ = some (.int .u32 a1_2) ∧ w'.cell? ⟨gb173, 3, none⟩ = some (.int .u32 a1_3) ∧ w'.cell? ⟨gb192, 0, none⟩ = some (.int .u32 t188) ∧ w'.cell? ⟨gb192, 1, none⟩ = some (.int .u32 t189) ∧ w'.cell? ⟨gb192, 2, none⟩ = some (.int .u32 t190) ∧ w'.cell? ⟨gb192, 3, none⟩ = some (.int .u32 t191)) (ds := []) #[F_,F_,F_,F_,F_,F_,F_,F_,F_,F_,F_,F_,F_,F_,F_,F_,F_,F_,F_,F_,F_,F_,F_,F_,F_,F_,F_,F_,F_,F_] (by kernel_rfl) rfl rfl ⟨(blk_cell BK172.out 0).trans rfl, (blk_cell BK172.out 1).trans rfl, (blk_cell BK172.out 2).trans rfl, (blk_cell BK172.out 3).trans rfl, (blk_cell BK173.out 0).trans rfl, (blk_cell BK173.out 1).trans rfl, (blk_cell BK173.out 2).trans rfl, (blk_cell BK173.out 3).trans rfl, (blk_cell BK192.out 0).trans rfl, (blk_cell BK192.out 1).trans rfl, (blk_cell BK192.out 2).trans rfl, (blk_cell BK192.out 3).trans rfl⟩ (fun hHeld => ?_); refine with_tabW counterpanelaw04_RectWhole.tab7 counterpanelaw04_RectWhole.bits7 (fun HT_ HW_ => ?_)
           generalize w122.drew = w123 at BK172 BK173 BK174 BK192 HB hHeld ⊢
           refine take_ (i := 0) (N := some 71) (v := ?_) (a' := ?_) #[T_,F_,F_,F_,F_,F_,F_,F_,F_,F_,F_,F_,F_,F_,F_,F_,F_,F_,F_,F_,F_,F_,F_,F_,F_,F_,F_,F_,F_,F_] rfl rfl (take_ofW HT_.out HW_.out (by kernel_rfl)) (fun _ _ _ h => h) (Or.inl ⟨by rfl, ?_⟩) hHeld ?_ ?_
           rotate_left; (rintro w' ⟨s0, s1, s2, s3, s4, s5, s6, s7, s8, s9, s10, s11⟩; go_simp; with_reducible rfl); rotate_left; (simp only [put_]; rfl)
           refine take_ (i := 1) (N := some 72) (v := ?_) (a' := ?_) #[T_,T_,F_,F_,F_,F_,F_,F_,F_,F_,F_,F_,F_,F_,F_,F_,F_,F_,F_,F_,F_,F_,F_,F_,F_,F_,F_,F_,F_,F_] rfl rfl (take_ofW HT_.out HW_.out (by kernel_rfl)) (fun _ _ _ h => h) (Or.inl ⟨by rfl, ?_⟩) hHeld ?_ ?_
           rotate_left; (rintro w' ⟨s0, s1, s2, s3, s4, s5, s6, s7, s8, s9, s10, s11⟩; go_simp; with_reducible rfl); rotate_left; (simp only [put_]; rfl)
           refine take_ (i := 3) (N := some 74) (v := ?_) (a' := ?_) #[T_,T_,F_,T_,F_,F_,F_,F_,F_,F_,F_,F_,F_,F_,F_,F_,F_,F_,F_,F_,F_,F_,F_,F_,F_,F_,F_,F_,F_,F_] rfl rfl (take_ofW HT_.out HW_.out (by kernel_rfl)) (fun _ _ _ h => h) (Or.inl ⟨by rfl, ?_⟩) hHeld ?_ ?_
           rotate_left; (rintro w' ⟨s0, s1, s2, s3, s4, s5, s6, s7, s8, s9, s10, s11⟩; go_simp; with_reducible rfl); rotate_left; (simp only [put_]; rfl)
           refine one_ (i := 2) (N := some 73) #[T_,T_,T_,T_,F_,F_,F_,F_,F_,F_,F_,F_,F_,F_,F_,F_,F_,F_,F_,F_,F_,F_,F_,F_,F_,F_,F_,F_,F_,F_] rfl rfl (one_of HT_.out (by kernel_rfl)) (by decide) (fun K hK => ?_)
           refine goes_ Try.func11 (by kernel_rfl) rfl #[.agg #[.int .u32 a0_0, .int .u32 a0_1, .int .u32 a0_2, .int .u32 a0_3], .agg #[.int .u32 a1_0, .int .u32 a1_1, .int .u32 a1_2, .int .u32 a1_3]] (by rfl) rfl rfl (by (try simp only [List.map_toArray, List.map_cons, List.map_nil]); first | done | rfl | (simp only [List.length_drop, List.length_take]; rfl) | (simp; done)) ?_
           with_reducible refine (rect_Meets.calls a0_0 a0_1 a0_2 a0_3 a1_0 a1_1 a1_2 a1_3 t193 _ A91.out).mono ?_
           rintro e w124 ⟨rfl, hb⟩
           refine ⟨_, rfl, ?_⟩
           replace BK172 := Aside0.mk (blk_below BK172.out hb)
           replace BK173 := Aside0.mk (blk_below BK173.out hb)
           replace BK174 := Aside0.mk (blk_below BK174.out hb)
           replace BK192 := Aside0.mk (blk_below BK192.out hb)
           replace HB := Aside0.mk (below_step (by repeat (first | (with_reducible first | exact HB.out | apply below_alloc | apply pw_below_drewN | apply below_drew1 | refine below_set ?_ GE172.out | refine below_set ?_ GE173.out | refine below_set ?_ GE174.out | refine below_set ?_ GE192.out) | exact HB.out)) hb)
           refine hK.out _ _ ⟨(blk_cell BK172.out 0).trans rfl, (blk_cell BK172.out 1).trans rfl, (blk_cell BK172.out 2).trans rfl, (blk_cell BK172.out 3).trans rfl, (blk_cell BK173.out 0).trans rfl, (blk_cell BK173.out 1).trans rfl, (blk_cell BK173.out 2).trans rfl, (blk_cell BK173.out 3).trans rfl, (blk_cell BK192.out 0).trans rfl, (blk_cell BK192.out 1).trans rfl, (blk_cell BK192.out 2).trans rfl, (blk_cell BK192.out 3).trans rfl⟩ (fun hHeld => ?_)
           clear hK K
           refine norm_ (a' := ?_) ?_ ?_
           rotate_left
           ·show Act.put _ (some 73) _ = _
            simp only [put_]
            rfl
           refine one_ (i := 4) (N := some 75) #[T_,T_,T_,T_,T_,F_,F_,F_,F_,F_,F_,F_,F_,F_,F_,F_,F_,F_,F_,F_,F_,F_,F_,F_,F_,F_,F_,F_,F_,F_] rfl rfl (one_of HT_.out (by kernel_rfl)) (by decide) (fun K hK => ?_)
           refine goes_ Try.func10 (by kernel_rfl) rfl #[.agg #[.int .u32 a1_0, .int .u32 a1_1, .int .u32 a1_2, .int .u32 a1_3]] (by rfl) rfl rfl (by (try simp only [List.map_toArray, List.map_cons, List.map_nil]); first | done | rfl | (simp only [List.length_drop, List.length_take]; rfl) | (simp; done)) ?_
           with_reducible refine (rect_Empty.calls a1_0 a1_1 a1_2 a1_3 false _ A92.out).mono ?_
           rintro e w125 ⟨rfl, hb⟩
           refine ⟨_, rfl, ?_⟩
           replace BK172 := Aside0.mk (blk_below BK172.out hb)
           replace BK173 := Aside0.mk (blk_below BK173.out hb)
           replace BK174 := Aside0.mk (blk_below BK174.out hb)
           replace BK192 := Aside0.mk (blk_below BK192.out hb)
           replace HB := Aside0.mk (below_step (by repeat (first | (with_reducible first | exact HB.out | apply below_alloc | apply pw_below_drewN | apply below_drew1 | refine below_set ?_ GE172.out | refine below_set ?_ GE173.out | refine below_set ?_ GE174.out | refine below_set ?_ GE192.out) | exact HB.out)) hb)
           refine hK.out _ _ ⟨(blk_cell BK172.out 0).trans rfl, (blk_cell BK172.out 1).trans rfl, (blk_cell BK172.out 2).trans rfl, (blk_cell BK172.out 3).trans rfl, (blk_cell BK173.out 0).trans rfl, (blk_cell BK173.out 1).trans rfl, (blk_cell BK173.out 2).trans rfl, (blk_cell BK173.out 3).trans rfl, (blk_cell BK192.out 0).trans rfl, (blk_cell BK192.out 1).trans rfl, (blk_cell BK192.out 2).trans rfl, (blk_cell BK192.out 3).trans rfl⟩ (fun hHeld => ?_)
           clear hK K
           refine norm_ (a' := ?_) ?_ ?_
           rotate_left
           ·show Act.put _ (some 75) _ = _
            simp only [put_]
            rfl
           refine pure_ (i := 5) (N := some 76) (v := ?_) (a' := ?_) #[T_,T_,T_,T_,T_,T_,F_,F_,F_,F_,F_,F_,F_,F_,F_,F_,F_,F_,F_,F_,F_,F_,F_,F_,F_,F_,F_,F_,F_,F_] rfl rfl (any_of HT_.out (by kernel_rfl)) (fun _ _ _ h => h) (Or.inl ⟨by rfl, ?_⟩) ?_ ?_
           rotate_left; (intro w'; go_simp; with_reducible rfl); rotate_left; (simp only [put_]; rfl)
           refine pure_ (i := 6) (N := some 77) (v := ?_) (a' := ?_) #[T_,T_,T_,T_,T_,T_,T_,F_,F_,F_,F_,F_,F_,F_,F_,F_,F_,F_,F_,F_,F_,F_,F_,F_,F_,F_,F_,F_,F_,F_] rfl rfl (any_of HT_.out (by kernel_rfl)) (fun _ _ _ h => h) (Or.inl ⟨by rfl, ?_⟩) ?_ ?_
           rotate_left; (intro w'; go_simp; with_reducible rfl); rotate_left; (simp only [put_]; rfl)
           refine pure_ (i := 7) (N := some 78) (v := ?_) (a' := ?_) #[T_,T_,T_,T_,T_,T_,T_,T_,F_,F_,F_,F_,F_,F_,F_,F_,F_,F_,F_,F_,F_,F_,F_,F_,F_,F_,F_,F_,F_,F_] rfl rfl (any_of HT_.out (by kernel_rfl)) (fun _ _ _ h => h) (Or.inl ⟨by rfl, ?_⟩) ?_ ?_
           rotate_left; (intro w'; go_simp; with_reducible rfl); rotate_left; (simp only [put_]; rfl)
           refine pure_ (i := 9) (N := some 80) (v := ?_) (a' := ?_) #[T_,T_,T_,T_,T_,T_,T_,T_,F_,T_,F_,F_,F_,F_,F_,F_,F_,F_,F_,F_,F_,F_,F_,F_,F_,F_,F_,F_,F_,F_] rfl rfl (any_of HT_.out (by kernel_rfl)) (fun _ _ _ h => h) (Or.inl ⟨by rfl, ?_⟩) ?_ ?_
           rotate_left; (intro w'; go_simp; with_reducible rfl); rotate_left; (simp only [put_]; rfl)
           refine take_ (i := 8) (N := some 79) (v := ?_) (a' := ?_) #[T_,T_,T_,T_,T_,T_,T_,T_,T_,T_,F_,F_,F_,F_,F_,F_,F_,F_,F_,F_,F_,F_,F_,F_,F_,F_,F_,F_,F_,F_] rfl rfl (take_ofW HT_.out HW_.out (by kernel_rfl)) (fun _ _ _ h => h) (Or.inl ⟨by rfl, ?_⟩) hHeld ?_ ?_
           rotate_left; (rintro w' ⟨s0, s1, s2, s3, s4, s5, s6, s7, s8, s9, s10, s11⟩; go_simp; with_reducible rfl); rotate_left; (simp only [put_]; rfl)
           refine take_ (i := 10) (N := some 81) (v := ?_) (a' := ?_) #[T_,T_,T_,T_,T_,T_,T_,T_,T_,T_,T_,F_,F_,F_,F_,F_,F_,F_,F_,F_,F_,F_,F_,F_,F_,F_,F_,F_,F_,F_] rfl rfl (take_ofW HT_.out HW_.out (by kernel_rfl)) (fun _ _ _ h => h) (Or.inl ⟨by rfl, ?_⟩) hHeld ?_ ?_
           rotate_left; (rintro w' ⟨s0, s1, s2, s3, s4, s5, s6, s7, s8, s9, s10, s11⟩; go_simp; with_reducible rfl); rotate_left; (simp only [put_]; rfl)
           refine pure_ (i := 11) (N := some 82) (v := ?_) (a' := ?_) #[T_,T_,T_,T_,T_,T_,T_,T_,T_,T_,T_,T_,F_,F_,F_,F_,F_,F_,F_,F_,F_,F_,F_,F_,F_,F_,F_,F_,F_,F_] rfl rfl (any_of HT_.out (by kernel_rfl)) (fun _ _ _ h => h) (Or.inl ⟨by rfl, ?_⟩) ?_ ?_
           rotate_left; (intro w'; go_simp; with_reducible rfl); rotate_left; (simp only [put_]; rfl)
           refine pure_ (i := 12) (N := some 83) (v := ?_) (a' := ?_) #[T_,T_,T_,T_,T_,T_,T_,T_,T_,T_,T_,T_,T_,F_,F_,F_,F_,F_,F_,F_,F_,F_,F_,F_,F_,F_,F_,F_,F_,F_] rfl rfl (any_of HT_.out (by kernel_rfl)) (fun _ _ _ h => h) (Or.inl ⟨by rfl, ?_⟩) ?_ ?_
           rotate_left; (intro w'; go_simp; with_reducible rfl); rotate_left; (simp only [put_]; rfl)
           refine pure_ (i := 13) (N := some 84) (v := ?_) (a' := ?_) #[T_,T_,T_,T_,T_,T_,T_,T_,T_,T_,T_,T_,T_,T_,F_,F_,F_,F_,F_,F_,F_,F_,F_,F_,F_,F_,F_,F_,F_,F_] rfl rfl (any_of HT_.out (by kernel_rfl)) (fun _ _ _ h => h) (Or.inl ⟨by rfl, ?_⟩) ?_ ?_
           rotate_left; (intro w'; go_simp; with_reducible rfl); rotate_left; (simp only [put_]; rfl)
           refine pure_ (i := 14) (N := some 85) (v := undef) (a' := ?_) #[T_,T_,T_,T_,T_,T_,T_,T_,T_,T_,T_,T_,T_,T_,T_,F_,F_,F_,F_,F_,F_,F_,F_,F_,F_,F_,F_,F_,F_,F_] rfl rfl (any_of HT_.out (by kernel_rfl)) (fun _ _ _ h => h) (Or.inr ⟨by rfl, rfl⟩) ?_ ?_
           rotate_left
           ·simp only [put_]
            rfl
           refine pure_ (i := 15) (N := some 86) (v := undef) (a' := ?_) #[T_,T_,T_,T_,T_,T_,T_,T_,T_,T_,T_,T_,T_,T_,T_,T_,F_,F_,F_,F_,F_,F_,F_,F_,F_,F_,F_,F_,F_,F_] rfl rfl (any_of HT_.out (by kernel_rfl)) (fun _ _ _ h => h) (Or.inr ⟨by rfl, rfl⟩) ?_ ?_
           rotate_left
           ·simp only [put_]
            rfl
           refine pure_ (i := 16) (N := some 87) (v := undef) (a' := ?_) #[T_,T_,T_,T_,T_,T_,T_,T_,T_,T_,T_,T_,T_,T_,T_,T_,T_,F_,F_,F_,F_,F_,F_,F_,F_,F_,F_,F_,F_,F_] rfl rfl (any_of HT_.out (by kernel_rfl)) (fun _ _ _ h => h) (Or.inr ⟨by rfl, rfl⟩) ?_ ?_
           rotate_left
           ·simp only [put_]
            rfl
           refine pure_ (i := 17) (N := some 88) (v := undef) (a' := ?_) #[T_,T_,T_,T_,T_,T_,T_,T_,T_,T_,T_,T_,T_,T_,T_,T_,T_,T_,F_,F_,F_,F_,F_,F_,F_,F_,F_,F_,F_,F_] rfl rfl (any_of HT_.out (by kernel_rfl)) (fun _ _ _ h => h) (Or.inr ⟨by rfl, rfl⟩) ?_ ?_
           rotate_left
           ·simp only [put_]
            rfl
           refine pure_ (i := 18) (N := some 89) (v := undef) (a' := ?_) #[T_,T_,T_,T_,T_,T_,T_,T_,T_,T_,T_,T_,T_,T_,T_,T_,T_,T_,T_,F_,F_,F_,F_,F_,F_,F_,F_,F_,F_,F_] rfl rfl (any_of HT_.out (by kernel_rfl)) (fun _ _ _ h => h) (Or.inr ⟨by rfl, rfl⟩) ?_ ?_
           rotate_left
           ·simp only [put_]
            rfl
           refine pure_ (i := 19) (N := some 90) (v := ?_) (a' := ?_) #[T_,T_,T_,T_,T_,T_,T_,T_,T_,T_,T_,T_,T_,T_,T_,T_,T_,T_,T_,T_,F_,F_,F_,F_,F_,F_,F_,F_,F_,F_] rfl rfl (any_of HT_.out (by kernel_rfl)) (fun _ _ _ h => h) (Or.inl ⟨by rfl, ?_⟩) ?_ ?_
           rotate_left; (intro w'; go_simp; with_reducible rfl); rotate_left; (simp only [put_]; rfl)
           refine pure_ (i := 20) (N := some 91) (v := ?_) (a' := ?_) #[T_,T_,T_,T_,T_,T_,T_,T_,T_,T_,T_,T_,T_,T_,T_,T_,T_,T_,T_,T_,T_,F_,F_,F_,F_,F_,F_,F_,F_,F_] rfl rfl (any_of HT_.out (by kernel_rfl)) (fun _ _ _ h => h) (Or.inl ⟨by rfl, ?_⟩) ?_ ?_
           rotate_left; (intro w'; go_simp; with_reducible rfl); rotate_left; (simp only [put_]; rfl)
           refine pure_ (i := 21) (N := some 92) (v := ?_) (a' := ?_) #[T_,T_,T_,T_,T_,T_,T_,T_,T_,T_,T_,T_,T_,T_,T_,T_,T_,T_,T_,T_,T_,T_,F_,F_,F_,F_,F_,F_,F_,F_] rfl rfl (any_of HT_.out (by kernel_rfl)) (fun _ _ _ h => h) (Or.inl ⟨by rfl, ?_⟩) ?_ ?_
           rotate_left; (intro w'; go_simp; with_reducible rfl); rotate_left; (simp only [put_]; rfl)
           refine pure_ (i := 22) (N := some 93) (v := undef) (a' := ?_) #[T_,T_,T_,T_,T_,T_,T_,T_,T_,T_,T_,T_,T_,T_,T_,T_,T_,T_,T_,T_,T_,T_,T_,F_,F_,F_,F_,F_,F_,F_] rfl rfl (any_of HT_.out (by kernel_rfl)) (fun _ _ _ h => h) (Or.inr ⟨by rfl, rfl⟩) ?_ ?_
           rotate_left
           ·simp only [put_]
            rfl
           refine pure_ (i := 23) (N := some 94) (v := undef) (a' := ?_) #[T_,T_,T_,T_,T_,T_,T_,T_,T_,T_,T_,T_,T_,T_,T_,T_,T_,T_,T_,T_,T_,T_,T_,T_,F_,F_,F_,F_,F_,F_] rfl rfl (any_of HT_.out (by kernel_rfl)) (fun _ _ _ h => h) (Or.inr ⟨by rfl, rfl⟩) ?_ ?_
           rotate_left
           ·simp only [put_]
            rfl
           refine pure_ (i := 24) (N := some 95) (v := undef) (a' := ?_) #[T_,T_,T_,T_,T_,T_,T_,T_,T_,T_,T_,T_,T_,T_,T_,T_,T_,T_,T_,T_,T_,T_,T_,T_,T_,F_,F_,F_,F_,F_] rfl rfl (any_of HT_.out (by kernel_rfl)) (fun _ _ _ h => h) (Or.inr ⟨by rfl, rfl⟩) ?_ ?_
           rotate_left
           ·simp only [put_]
            rfl
           refine pure_ (i := 25) (N := some 96) (v := undef) (a' := ?_) #[T_,T_,T_,T_,T_,T_,T_,T_,T_,T_,T_,T_,T_,T_,T_,T_,T_,T_,T_,T_,T_,T_,T_,T_,T_,T_,F_,F_,F_,F_] rfl rfl (any_of HT_.out (by kernel_rfl)) (fun _ _ _ h => h) (Or.inr ⟨by rfl, rfl⟩) ?_ ?_
           rotate_left
           ·simp only [put_]
            rfl
           refine pure_ (i := 26) (N := some 97) (v := undef) (a' := ?_) #[T_,T_,T_,T_,T_,T_,T_,T_,T_,T_,T_,T_,T_,T_,T_,T_,T_,T_,T_,T_,T_,T_,T_,T_,T_,T_,T_,F_,F_,F_] rfl rfl (any_of HT_.out (by kernel_rfl)) (fun _ _ _ h => h) (Or.inr ⟨by rfl, rfl⟩) ?_ ?_
           rotate_left
           ·simp only [put_]
            rfl
           refine pure_ (i := 27) (N := some 98) (v := undef) (a' := ?_) #[T_,T_,T_,T_,T_,T_,T_,T_,T_,T_,T_,T_,T_,T_,T_,T_,T_,T_,T_,T_,T_,T_,T_,T_,T_,T_,T_,T_,F_,F_] rfl rfl (any_of HT_.out (by kernel_rfl)) (fun _ _ _ h => h) (Or.inr ⟨by rfl, rfl⟩) ?_ ?_
           rotate_left
           ·simp only [put_]
            rfl
           refine pure_ (i := 28) (N := some 99) (v := undef) (a' := ?_) #[T_,T_,T_,T_,T_,T_,T_,T_,T_,T_,T_,T_,T_,T_,T_,T_,T_,T_,T_,T_,T_,T_,T_,T_,T_,T_,T_,T_,T_,F_] rfl rfl (any_of HT_.out (by kernel_rfl)) (fun _ _ _ h => h) (Or.inr ⟨by rfl, rfl⟩) ?_ ?_
           rotate_left
           ·simp only [put_]
            rfl
           refine pure_ (i := 29) (N := some 100) (v := ?_) (a' := ?_) #[T_,T_,T_,T_,T_,T_,T_,T_,T_,T_,T_,T_,T_,T_,T_,T_,T_,T_,T_,T_,T_,T_,T_,T_,T_,T_,T_,T_,T_,T_] rfl rfl (any_of HT_.out (by kernel_rfl)) (fun _ _ _ h => h) (Or.inl ⟨by rfl, ?_⟩) ?_ ?_
           rotate_left; (intro w'; go_simp; with_reducible rfl); rotate_left; (simp only [put_]; rfl)
           refine done_ (done_of HT_.out (by kernel_rfl)) ?_
           try go_wp2
           go_meet
           case rel => exact ⟨_, (true), (by first | rfl | (simp; done) | (simp [*]; done)), H', ⟨by have := HJ24.out; have := HJ50.out; first | omega | exact Nat.le_refl _⟩, ⟨by exact BK172.out⟩, ⟨by exact BK173.out⟩, ⟨by exact BK174.out⟩, ⟨by exact BK192.out⟩, ⟨by repeat (first | (with_reducible first | exact HB.out | apply below_alloc | apply pw_below_drewN | apply below_drew1 | refine below_set ?_ GE172.out | refine below_set ?_ GE173.out | refine below_set ?_ GE174.out | refine below_set ?_ GE192.out) | exact HB.out)⟩⟩
          ·rw [if_neg c121] at H
           have c121b0 : (t193 != false) = false := by simpa using c121
           (try (have c121b1 : decide (t193 = false) = true := by simpa using c121))
           (try (have c121b2 : (t193 == false) = true := by simpa using c121))
           clear c121
           replace H := Option.bind_eq_some_iff.mp H
           obtain ⟨t199, A1260, H⟩ := H
           replace H : ((rect_Meets.f a1_0 a1_1 a1_2 a1_3 a0_0 a0_1 a0_2 a0_3).bind fun t200 => (counterpanelaw04_RectWhole.j2 kj50 (t199 != t200) a0_0 a0_1 a0_2 a0_3 a1_0 a1_1 a1_2 a1_3 a2_0 a2_1 a2_2 a2_3)) = some r := H
           have A126 := Aside0.mk A1260
           clear A1260
           replace H := Option.bind_eq_some_iff.mp H
           obtain ⟨t200, A1270, H⟩ := H
           replace H : (counterpanelaw04_RectWhole.j2 kj50 (t199 != t200) a0_0 a0_1 a0_2 a0_3 a1_0 a1_1 a1_2 a1_3 a2_0 a2_1 a2_2 a2_3) = some r := H
           have A127 := Aside0.mk A1270
           clear A1270
           have H' := Aside0.mk H
           clear H
           try go_wp2
           have n0_ : Aside0 (((((w86.setCell ⟨gb192, 0, none⟩ (.int .u32 t188)).setCell ⟨gb192, 1, none⟩ (.int .u32 t189)).setCell ⟨gb192, 2, none⟩ (.int .u32 t190)).setCell ⟨gb192, 3, none⟩ (.int .u32 t191)).heap[gb172]? = some (.cells #[.int .u32 a0_0, .int .u32 a0_1, .int .u32 a0_2, .int .u32 a0_3] 24 (0, 0))) := ⟨by refine blk_far ?_ NB172_192.out _; refine blk_far ?_ NB172_192.out _; refine blk_far ?_ NB172_192.out _; refine blk_far ?_ NB172_192.out _; exact BK172.out⟩
           have n1_ : Aside0 (((((w86.setCell ⟨gb192, 0, none⟩ (.int .u32 t188)).setCell ⟨gb192, 1, none⟩ (.int .u32 t189)).setCell ⟨gb192, 2, none⟩ (.int .u32 t190)).setCell ⟨gb192, 3, none⟩ (.int .u32 t191)).heap[gb173]? = some (.cells #[.int .u32 a1_0, .int .u32 a1_1, .int .u32 a1_2, .int .u32 a1_3] 24 (0, 0))) := ⟨by refine blk_far ?_ NB173_192.out _; refine blk_far ?_ NB173_192.out _; refine blk_far ?_ NB173_192.out _; refine blk_far ?_ NB173_192.out _; exact BK173.out⟩
           have n2_ : Aside0 (((((w86.setCell ⟨gb192, 0, none⟩ (.int .u32 t188)).setCell ⟨gb192, 1, none⟩ (.int .u32 t189)).setCell ⟨gb192, 2, none⟩ (.int .u32 t190)).setCell ⟨gb192, 3, none⟩ (.int .u32 t191)).heap[gb174]? = some (.cells #[.int .u32 a2_0, .int .u32 a2_1, .int .u32 a2_2, .int .u32 a2_3] 24 (0, 0))) := ⟨by refine blk_far ?_ NB174_192.out _; refine blk_far ?_ NB174_192.out _; refine blk_far ?_ NB174_192.out _; refine blk_far ?_ NB174_192.out _; exact BK174.out⟩
           have n3_ : Aside0 (((((w86.setCell ⟨gb192, 0, none⟩ (.int .u32 t188)).setCell ⟨gb192, 1, none⟩ (.int .u32 t189)).setCell ⟨gb192, 2, none⟩ (.int .u32 t190)).setCell ⟨gb192, 3, none⟩ (.int .u32 t191)).heap[gb192]? = some (.cells #[.int .u32 t188, .int .u32 t189, .int .u32 t190, .int .u32 t191] 24 (0, 0))) := ⟨by refine blk_put (cs := #[.int .u32 t188, .int .u32 t189, .int .u32 t190, .int .u32 0]) ?_ 3 _ (by first | rfl | simp); refine blk_put (cs := #[.int .u32 t188, .int .u32 t189, .int .u32 0, .int .u32 0]) ?_ 2 _ (by first | rfl | simp); refine blk_put (cs := #[.int .u32 t188, .int .u32 0, .int .u32 0, .int .u32 0]) ?_ 1 _ (by first | rfl | simp); refine blk_put (cs := #[.int .u32 0, .int .u32 0, .int .u32 0, .int .u32 0]) ?_ 0 _ (by first | rfl | simp); exact BK192.out⟩
           have n4_ : Aside0 (Below w.heap.size w ((((w86.setCell ⟨gb192, 0, none⟩ (.int .u32 t188)).setCell ⟨gb192, 1, none⟩ (.int .u32 t189)).setCell ⟨gb192, 2, none⟩ (.int .u32 t190)).setCell ⟨gb192, 3, none⟩ (.int .u32 t191))) := ⟨by repeat (first | (with_reducible first | exact HB.out | apply below_alloc | apply pw_below_drewN | apply below_drew1 | refine below_set ?_ GE172.out | refine below_set ?_ GE173.out | refine below_set ?_ GE174.out | refine below_set ?_ GE192.out) | exact HB.out)⟩
           (try clear BK172)
           (try clear BK173)
           (try clear BK174)
           (try clear BK192)
           (try clear HB)
           generalize ((((w86.setCell ⟨gb192, 0, none⟩ (.int .u32 t188)).setCell ⟨gb192, 1, none⟩ (.int .u32 t189)).setCell ⟨gb192, 2, none⟩ (.int .u32 t190)).setCell ⟨gb192, 3, none⟩ (.int .u32 t191)) = w128 at n0_ n1_ n2_ n3_ n4_ ⊢
           have BK172 := n0_
           have BK173 := n1_
           have BK174 := n2_
           have BK192 := n3_
           have HB := n4_
           clear n0_ n1_ n2_ n3_ n4_
           replace BK172 := Aside0.mk (blk_drew BK172.out)
           replace BK173 := Aside0.mk (blk_drew BK173.out)
           replace BK174 := Aside0.mk (blk_drew BK174.out)
           replace BK192 := Aside0.mk (blk_drew BK192.out)
           replace HB := Aside0.mk (below_drew1 HB.out)
           refine start_ (n := 30) (S := fun w' => w'.cell? ⟨gb172, 0, none⟩ = some (.int .u32 a0_0) ∧ w'.cell? ⟨gb172, 1, none⟩ = some (.int .u32 a0_1) ∧ w'.cell? ⟨gb172, 2, none⟩ = some (.int .u32 a0_2) ∧ w'.cell? ⟨gb172, 3, none⟩ = some (.int .u32 a0_3) ∧ w'.cell? ⟨gb173, 0, none⟩ = some (.int .u32 a1_0) ∧ w'.cell? ⟨gb173, 1, none⟩ = some (.int .u32 a1_1) ∧ w'.cell? ⟨gb173, 2, none⟩ = some (.int .u32 a1_2) ∧ w'.cell? ⟨gb173, 3, none⟩ = some (.int .u32 a1_3) ∧ w'.cell? ⟨gb192, 0, none⟩ = some (.int .u32 t188) ∧ w'.cell? ⟨gb192, 1, none⟩ = some (.int .u32 t189) ∧ w'.cell? ⟨gb192, 2, none⟩ = some (.int .u32 t190) ∧ w'.cell? ⟨gb192, 3, none⟩ = some (.int .u32 t191)) (ds := []) #[F_,F_,F_,F_,F_,F_,F_,F_,F_,F_,F_,F_,F_,F_,F_,F_,F_,F_,F_,F_,F_,F_,F_,F_,F_,F_,F_,F_,F_,F_] (by kernel_rfl) rfl rfl ⟨(blk_cell BK172.out 0).trans rfl, (blk_cell BK172.out 1).trans rfl, (blk_cell BK172.out 2).trans rfl, (blk_cell BK172.out 3).trans rfl, (blk_cell BK173.out 0).trans rfl, (blk_cell BK173.out 1).trans rfl, (blk_cell BK173.out 2).trans rfl, (blk_cell BK173.out 3).trans rfl, (blk_cell BK192.out 0).trans rfl, (blk_cell BK192.out 1).trans rfl, (blk_cell BK192.out 2).trans rfl, (blk_cell BK192.out 3).trans rfl⟩ (fun hHeld => ?_); refine with_tabW counterpanelaw04_RectWhole.tab7 counterpanelaw04_RectWhole.bits7 (fun HT_ HW_ => ?_)
           generalize w128.drew = w129 at BK172 BK173 BK174 BK192 HB hHeld ⊢
           refine take_ (i := 0) (N := some 71) (v := ?_) (a' := ?_) #[T_,F_,F_,F_,F_,F_,F_,F_,F_,F_,F_,F_,F_,F_,F_,F_,F_,F_,F_,F_,F_,F_,F_,F_,F_,F_,F_,F_,F_,F_] rfl rfl (take_ofW HT_.out HW_.out (by kernel_rfl)) (fun _ _ _ h => h) (Or.inl ⟨by rfl, ?_⟩) hHeld ?_ ?_
           rotate_left; (rintro w' ⟨s0, s1, s2, s3, s4, s5, s6, s7, s8, s9, s10, s11⟩; go_simp; with_reducible rfl); rotate_left; (simp only [put_]; rfl)
           refine take_ (i := 1) (N := some 72) (v := ?_) (a' := ?_) #[T_,T_,F_,F_,F_,F_,F_,F_,F_,F_,F_,F_,F_,F_,F_,F_,F_,F_,F_,F_,F_,F_,F_,F_,F_,F_,F_,F_,F_,F_] rfl rfl (take_ofW HT_.out HW_.out (by kernel_rfl)) (fun _ _ _ h => h) (Or.inl ⟨by rfl, ?_⟩) hHeld ?_ ?_
           rotate_left; (rintro w' ⟨s0, s1, s2, s3, s4, s5, s6, s7, s8, s9, s10, s11⟩; go_simp; with_reducible rfl); rotate_left; (simp only [put_]; rfl)
           refine take_ (i := 3) (N := some 74) (v := ?_) (a' := ?_) #[T_,T_,F_,T_,F_,F_,F_,F_,F_,F_,F_,F_,F_,F_,F_,F_,F_,F_,F_,F_,F_,F_,F_,F_,F_,F_,F_,F_,F_,F_] rfl rfl (take_ofW HT_.out HW_.out (by kernel_rfl)) (fun _ _ _ h => h) (Or.inl ⟨by rfl, ?_⟩) hHeld ?_ ?_
           rotate_left; (rintro w' ⟨s0, s1, s2, s3, s4, s5, s6, s7, s8, s9, s10, s11⟩; go_simp; with_reducible rfl); rotate_left; (simp only [put_]; rfl)
           refine one_ (i := 2) (N := some 73) #[T_,T_,T_,T_,F_,F_,F_,F_,F_,F_,F_,F_,F_,F_,F_,F_,F_,F_,F_,F_,F_,F_,F_,F_,F_,F_,F_,F_,F_,F_] rfl rfl (one_of HT_.out (by kernel_rfl)) (by decide) (fun K hK => ?_)
           refine goes_ Try.func11 (by kernel_rfl) rfl #[.agg #[.int .u32 a0_0, .int .u32 a0_1, .int .u32 a0_2, .int .u32 a0_3], .agg #[.int .u32 a1_0, .int .u32 a1_1, .int .u32 a1_2, .int .u32 a1_3]] (by rfl) rfl rfl (by (try simp only [List.map_toArray, List.map_cons, List.map_nil]); first | done | rfl | (simp only [List.length_drop, List.length_take]; rfl) | (simp; done)) ?_
           with_reducible refine (rect_Meets.calls a0_0 a0_1 a0_2 a0_3 a1_0 a1_1 a1_2 a1_3 t193 _ A91.out).mono ?_
           rintro e w130 ⟨rfl, hb⟩
           refine ⟨_, rfl, ?_⟩
           replace BK172 := Aside0.mk (blk_below BK172.out hb)
           replace BK173 := Aside0.mk (blk_below BK173.out hb)
           replace BK174 := Aside0.mk (blk_below BK174.out hb)
           replace BK192 := Aside0.mk (blk_below BK192.out hb)
           replace HB := Aside0.mk (below_step (by repeat (first | (with_reducible first | exact HB.out | apply below_alloc | apply pw_below_drewN | apply below_drew1 | refine below_set ?_ GE172.out | refine below_set ?_ GE173.out | refine below_set ?_ GE174.out | refine below_set ?_ GE192.out) | exact HB.out)) hb)
           refine hK.out _ _ ⟨(blk_cell BK172.out 0).trans rfl, (blk_cell BK172.out 1).trans rfl, (blk_cell BK172.out 2).trans rfl, (blk_cell BK172.out 3).trans rfl, (blk_cell BK173.out 0).trans rfl, (blk_cell BK173.out 1).trans rfl, (blk_cell BK173.out 2).trans rfl, (blk_cell BK173.out 3).trans rfl, (blk_cell BK192.out 0).trans rfl, (blk_cell BK192.out 1).trans rfl, (blk_cell BK192.out 2).trans rfl, (blk_cell BK192.out 3).trans rfl⟩ (fun hHeld => ?_)
           clear hK K
           refine norm_ (a' := ?_) ?_ ?_
           rotate_left
           ·show Act.put _ (some 73) _ = _
            simp only [put_]
            rfl
           refine one_ (i := 4) (N := some 75) #[T_,T_,T_,T_,T_,F_,F_,F_,F_,F_,F_,F_,F_,F_,F_,F_,F_,F_,F_,F_,F_,F_,F_,F_,F_,F_,F_,F_,F_,F_] rfl rfl (one_of HT_.out (by kernel_rfl)) (by decide) (fun K hK => ?_)
           refine goes_ Try.func10 (by kernel_rfl) rfl #[.agg #[.int .u32 a1_0, .int .u32 a1_1, .int .u32 a1_2, .int .u32 a1_3]] (by rfl) rfl rfl (by (try simp only [List.map_toArray, List.map_cons, List.map_nil]); first | done | rfl | (simp only [List.length_drop, List.length_take]; rfl) | (simp; done)) ?_
           with_reducible refine (rect_Empty.calls a1_0 a1_1 a1_2 a1_3 false _ A92.out).mono ?_
           rintro e w131 ⟨rfl, hb⟩
           refine ⟨_, rfl, ?_⟩
           replace BK172 := Aside0.mk (blk_below BK172.out hb)
           replace BK173 := Aside0.mk (blk_below BK173.out hb)
           replace BK174 := Aside0.mk (blk_below BK174.out hb)
           replace BK192 := Aside0.mk (blk_below BK192.out hb)
           replace HB := Aside0.mk (below_step (by repeat (first | (with_reducible first | exact HB.out | apply below_alloc | apply pw_below_drewN | apply below_drew1 | refine below_set ?_ GE172.out | refine below_set ?_ GE173.out | refine below_set ?_ GE174.out | refine below_set ?_ GE192.out) | exact HB.out)) hb)
           refine hK.out _ _ ⟨(blk_cell BK172.out 0).trans rfl, (blk_cell BK172.out 1).trans rfl, (blk_cell BK172.out 2).trans rfl, (blk_cell BK172.out 3).trans rfl, (blk_cell BK173.out 0).trans rfl, (blk_cell BK173.out 1).trans rfl, (blk_cell BK173.out 2).trans rfl, (blk_cell BK173.out 3).trans rfl, (blk_cell BK192.out 0).trans rfl, (blk_cell BK192.out 1).trans rfl, (blk_cell BK192.out 2).trans rfl, (blk_cell BK192.out 3).trans rfl⟩ (fun hHeld => ?_)
           clear hK K
           refine norm_ (a' := ?_) ?_ ?_
           rotate_left
           ·show Act.put _ (some 75) _ = _
            simp only [put_]
            rfl
           refine pure_ (i := 5) (N := some 76) (v := ?_) (a' := ?_) #[T_,T_,T_,T_,T_,T_,F_,F_,F_,F_,F_,F_,F_,F_,F_,F_,F_,F_,F_,F_,F_,F_,F_,F_,F_,F_,F_,F_,F_,F_] rfl rfl (any_of HT_.out (by kernel_rfl)) (fun _ _ _ h => h) (Or.inl ⟨by rfl, ?_⟩) ?_ ?_
           rotate_left; (intro w'; go_simp; with_reducible rfl); rotate_left; (simp only [put_]; rfl)
           refine pure_ (i := 6) (N := some 77) (v := ?_) (a' := ?_) #[T_,T_,T_,T_,T_,T_,T_,F_,F_,F_,F_,F_,F_,F_,F_,F_,F_,F_,F_,F_,F_,F_,F_,F_,F_,F_,F_,F_,F_,F_] rfl rfl (any_of HT_.out (by kernel_rfl)) (fun _ _ _ h => h) (Or.inl ⟨by rfl, ?_⟩) ?_ ?_
           rotate_left; (intro w'; go_simp; with_reducible rfl); rotate_left; (simp only [put_]; rfl)
           refine pure_ (i := 7) (N := some 78) (v := ?_) (a' := ?_) #[T_,T_,T_,T_,T_,T_,T_,T_,F_,F_,F_,F_,F_,F_,F_,F_,F_,F_,F_,F_,F_,F_,F_,F_,F_,F_,F_,F_,F_,F_] rfl rfl (any_of HT_.out (by kernel_rfl)) (fun _ _ _ h => h) (Or.inl ⟨by rfl, ?_⟩) ?_ ?_
           rotate_left; (intro w'; go_simp; with_reducible rfl); rotate_left; (simp only [put_]; rfl)
           refine pure_ (i := 9) (N := some 80) (v := ?_) (a' := ?_) #[T_,T_,T_,T_,T_,T_,T_,T_,F_,T_,F_,F_,F_,F_,F_,F_,F_,F_,F_,F_,F_,F_,F_,F_,F_,F_,F_,F_,F_,F_] rfl rfl (any_of HT_.out (by kernel_rfl)) (fun _ _ _ h => h) (Or.inl ⟨by rfl, ?_⟩) ?_ ?_
           rotate_left; (intro w'; go_simp; with_reducible rfl); rotate_left; (simp only [put_]; rfl)
           refine take_ (i := 8) (N := some 79) (v := ?_) (a' := ?_) #[T_,T_,T_,T_,T_,T_,T_,T_,T_,T_,F_,F_,F_,F_,F_,F_,F_,F_,F_,F_,F_,F_,F_,F_,F_,F_,F_,F_,F_,F_] rfl rfl (take_ofW HT_.out HW_.out (by kernel_rfl)) (fun _ _ _ h => h) (Or.inl ⟨by rfl, ?_⟩) hHeld ?_ ?_
           rotate_left; (rintro w' ⟨s0, s1, s2, s3, s4, s5, s6, s7, s8, s9, s10, s11⟩; go_simp; with_reducible rfl); rotate_left; (simp only [put_]; rfl)
           refine take_ (i := 10) (N := some 81) (v := ?_) (a' := ?_) #[T_,T_,T_,T_,T_,T_,T_,T_,T_,T_,T_,F_,F_,F_,F_,F_,F_,F_,F_,F_,F_,F_,F_,F_,F_,F_,F_,F_,F_,F_] rfl rfl (take_ofW HT_.out HW_.out (by kernel_rfl)) (fun _ _ _ h => h) (Or.inl ⟨by rfl, ?_⟩) hHeld ?_ ?_
           rotate_left; (rintro w' ⟨s0, s1, s2, s3, s4, s5, s6, s7, s8, s9, s10, s11⟩; go_simp; with_reducible rfl); rotate_left; (simp only [put_]; rfl)
           refine pure_ (i := 11) (N := some 82) (v := ?_) (a' := ?_) #[T_,T_,T_,T_,T_,T_,T_,T_,T_,T_,T_,T_,F_,F_,F_,F_,F_,F_,F_,F_,F_,F_,F_,F_,F_,F_,F_,F_,F_,F_] rfl rfl (any_of HT_.out (by kernel_rfl)) (fun _ _ _ h => h) (Or.inl ⟨by rfl, ?_⟩) ?_ ?_
           rotate_left; (intro w'; go_simp; with_reducible rfl); rotate_left; (simp only [put_]; rfl)
           refine pure_ (i := 12) (N := some 83) (v := ?_) (a' := ?_) #[T_,T_,T_,T_,T_,T_,T_,T_,T_,T_,T_,T_,T_,F_,F_,F_,F_,F_,F_,F_,F_,F_,F_,F_,F_,F_,F_,F_,F_,F_] rfl rfl (any_of HT_.out (by kernel_rfl)) (fun _ _ _ h => h) (Or.inl ⟨by rfl, ?_⟩) ?_ ?_
           rotate_left; (intro w'; go_simp; with_reducible rfl); rotate_left; (simp only [put_]; rfl)
           refine pure_ (i := 13) (N := some 84) (v := ?_) (a' := ?_) #[T_,T_,T_,T_,T_,T_,T_,T_,T_,T_,T_,T_,T_,T_,F_,F_,F_,F_,F_,F_,F_,F_,F_,F_,F_,F_,F_,F_,F_,F_] rfl rfl (any_of HT_.out (by kernel_rfl)) (fun _ _ _ h => h) (Or.inl ⟨by rfl, ?_⟩) ?_ ?_
           rotate_left; (intro w'; go_simp; with_reducible rfl); rotate_left; (simp only [put_]; rfl)
           refine pure_ (i := 14) (N := some 85) (v := undef) (a' := ?_) #[T_,T_,T_,T_,T_,T_,T_,T_,T_,T_,T_,T_,T_,T_,T_,F_,F_,F_,F_,F_,F_,F_,F_,F_,F_,F_,F_,F_,F_,F_] rfl rfl (any_of HT_.out (by kernel_rfl)) (fun _ _ _ h => h) (Or.inr ⟨by rfl, rfl⟩) ?_ ?_
           rotate_left
           ·simp only [put_]
            rfl
           refine pure_ (i := 15) (N := some 86) (v := undef) (a' := ?_) #[T_,T_,T_,T_,T_,T_,T_,T_,T_,T_,T_,T_,T_,T_,T_,T_,F_,F_,F_,F_,F_,F_,F_,F_,F_,F_,F_,F_,F_,F_] rfl rfl (any_of HT_.out (by kernel_rfl)) (fun _ _ _ h => h) (Or.inr ⟨by rfl, rfl⟩) ?_ ?_
           rotate_left
           ·simp only [put_]
            rfl
           refine pure_ (i := 16) (N := some 87) (v := undef) (a' := ?_) #[T_,T_,T_,T_,T_,T_,T_,T_,T_,T_,T_,T_,T_,T_,T_,T_,T_,F_,F_,F_,F_,F_,F_,F_,F_,F_,F_,F_,F_,F_] rfl rfl (any_of HT_.out (by kernel_rfl)) (fun _ _ _ h => h) (Or.inr ⟨by rfl, rfl⟩) ?_ ?_
           rotate_left
           ·simp only [put_]
            rfl
           refine pure_ (i := 17) (N := some 88) (v := undef) (a' := ?_) #[T_,T_,T_,T_,T_,T_,T_,T_,T_,T_,T_,T_,T_,T_,T_,T_,T_,T_,F_,F_,F_,F_,F_,F_,F_,F_,F_,F_,F_,F_] rfl rfl (any_of HT_.out (by kernel_rfl)) (fun _ _ _ h => h) (Or.inr ⟨by rfl, rfl⟩) ?_ ?_
           rotate_left
           ·simp only [put_]
            rfl
           refine pure_ (i := 18) (N := some 89) (v := undef) (a' := ?_) #[T_,T_,T_,T_,T_,T_,T_,T_,T_,T_,T_,T_,T_,T_,T_,T_,T_,T_,T_,F_,F_,F_,F_,F_,F_,F_,F_,F_,F_,F_] rfl rfl (any_of HT_.out (by kernel_rfl)) (fun _ _ _ h => h) (Or.inr ⟨by rfl, rfl⟩) ?_ ?_
           rotate_left
           ·simp only [put_]
            rfl
           refine pure_ (i := 19) (N := some 90) (v := ?_) (a' := ?_) #[T_,T_,T_,T_,T_,T_,T_,T_,T_,T_,T_,T_,T_,T_,T_,T_,T_,T_,T_,T_,F_,F_,F_,F_,F_,F_,F_,F_,F_,F_] rfl rfl (any_of HT_.out (by kernel_rfl)) (fun _ _ _ h => h) (Or.inl ⟨by rfl, ?_⟩) ?_ ?_
           rotate_left; (intro w'; go_simp; with_reducible rfl); rotate_left; (simp only [put_]; rfl)
           refine pure_ (i := 20) (N := some 91) (v := ?_) (a' := ?_) #[T_,T_,T_,T_,T_,T_,T_,T_,T_,T_,T_,T_,T_,T_,T_,T_,T_,T_,T_,T_,T_,F_,F_,F_,F_,F_,F_,F_,F_,F_] rfl rfl (any_of HT_.out (by kernel_rfl)) (fun _ _ _ h => h) (Or.inl ⟨by rfl, ?_⟩) ?_ ?_
           rotate_left; (intro w'; go_simp; with_reducible rfl); rotate_left; (simp only [put_]; rfl)
           refine pure_ (i := 21) (N := some 92) (v := ?_) (a' := ?_) #[T_,T_,T_,T_,T_,T_,T_,T_,T_,T_,T_,T_,T_,T_,T_,T_,T_,T_,T_,T_,T_,T_,F_,F_,F_,F_,F_,F_,F_,F_] rfl rfl (any_of HT_.out (by kernel_rfl)) (fun _ _ _ h => h) (Or.inl ⟨by rfl, ?_⟩) ?_ ?_
           rotate_left; (intro w'; go_simp; with_reducible rfl); rotate_left; (simp only [put_]; rfl)
           refine take_ (i := 22) (N := some 93) (v := ?_) (a' := ?_) #[T_,T_,T_,T_,T_,T_,T_,T_,T_,T_,T_,T_,T_,T_,T_,T_,T_,T_,T_,T_,T_,T_,T_,F_,F_,F_,F_,F_,F_,F_] rfl rfl (take_ofW HT_.out HW_.out (by kernel_rfl)) (fun _ _ _ h => h) (Or.inl ⟨by rfl, ?_⟩) hHeld ?_ ?_
           rotate_left; (rintro w' ⟨s0, s1, s2, s3, s4, s5, s6, s7, s8, s9, s10, s11⟩; go_simp; with_reducible rfl); rotate_left; (simp only [put_]; rfl)
           refine take_ (i := 23) (N := some 94) (v := ?_) (a' := ?_) #[T_,T_,T_,T_,T_,T_,T_,T_,T_,T_,T_,T_,T_,T_,T_,T_,T_,T_,T_,T_,T_,T_,T_,T_,F_,F_,F_,F_,F_,F_] rfl rfl (take_ofW HT_.out HW_.out (by kernel_rfl)) (fun _ _ _ h => h) (Or.inl ⟨by rfl, ?_⟩) hHeld ?_ ?_
           rotate_left; (rintro w' ⟨s0, s1, s2, s3, s4, s5, s6, s7, s8, s9, s10, s11⟩; go_simp; with_reducible rfl); rotate_left; (simp only [put_]; rfl)
           refine take_ (i := 25) (N := some 96) (v := ?_) (a' := ?_) #[T_,T_,T_,T_,T_,T_,T_,T_,T_,T_,T_,T_,T_,T_,T_,T_,T_,T_,T_,T_,T_,T_,T_,T_,F_,T_,F_,F_,F_,F_] rfl rfl (take_ofW HT_.out HW_.out (by kernel_rfl)) (fun _ _ _ h => h) (Or.inl ⟨by rfl, ?_⟩) hHeld ?_ ?_
           rotate_left; (rintro w' ⟨s0, s1, s2, s3, s4, s5, s6, s7, s8, s9, s10, s11⟩; go_simp; with_reducible rfl); rotate_left; (simp only [put_]; rfl)
           refine take_ (i := 26) (N := some 97) (v := ?_) (a' := ?_) #[T_,T_,T_,T_,T_,T_,T_,T_,T_,T_,T_,T_,T_,T_,T_,T_,T_,T_,T_,T_,T_,T_,T_,T_,F_,T_,T_,F_,F_,F_] rfl rfl (take_ofW HT_.out HW_.out (by kernel_rfl)) (fun _ _ _ h => h) (Or.inl ⟨by rfl, ?_⟩) hHeld ?_ ?_
           rotate_left; (rintro w' ⟨s0, s1, s2, s3, s4, s5, s6, s7, s8, s9, s10, s11⟩; go_simp; with_reducible rfl); rotate_left; (simp only [put_]; rfl)
           refine one_ (i := 24) (N := some 95) #[T_,T_,T_,T_,T_,T_,T_,T_,T_,T_,T_,T_,T_,T_,T_,T_,T_,T_,T_,T_,T_,T_,T_,T_,T_,T_,T_,F_,F_,F_] rfl rfl (one_of HT_.out (by kernel_rfl)) (by decide) (fun K hK => ?_)
           refine goes_ Try.func11 (by kernel_rfl) rfl #[.agg #[.int .u32 a0_0, .int .u32 a0_1, .int .u32 a0_2, .int .u32 a0_3], .agg #[.int .u32 a1_0, .int .u32 a1_1, .int .u32 a1_2, .int .u32 a1_3]] (by rfl) rfl rfl (by (try simp only [List.map_toArray, List.map_cons, List.map_nil]); first | done | rfl | (simp only [List.length_drop, List.length_take]; rfl) | (simp; done)) ?_
           with_reducible refine (rect_Meets.calls a0_0 a0_1 a0_2 a0_3 a1_0 a1_1 a1_2 a1_3 t199 _ A126.out).mono ?_
           rintro e w132 ⟨rfl, hb⟩
           refine ⟨_, rfl, ?_⟩
           replace BK172 := Aside0.mk (blk_below BK172.out hb)
           replace BK173 := Aside0.mk (blk_below BK173.out hb)
           replace BK174 := Aside0.mk (blk_below BK174.out hb)
           replace BK192 := Aside0.mk (blk_below BK192.out hb)
           replace HB := Aside0.mk (below_step (by repeat (first | (with_reducible first | exact HB.out | apply below_alloc | apply pw_below_drewN | apply below_drew1 | refine below_set ?_ GE172.out | refine below_set ?_ GE173.out | refine below_set ?_ GE174.out | refine below_set ?_ GE192.out) | exact HB.out)) hb)
           refine hK.out _ _ ⟨(blk_cell BK172.out 0).trans rfl, (blk_cell BK172.out 1).trans rfl, (blk_cell BK172.out 2).trans rfl, (blk_cell BK172.out 3).trans rfl, (blk_cell BK173.out 0).trans rfl, (blk_cell BK173.out 1).trans rfl, (blk_cell BK173.out 2).trans rfl, (blk_cell BK173.out 3).trans rfl, (blk_cell BK192.out 0).trans rfl, (blk_cell BK192.out 1).trans rfl, (blk_cell BK192.out 2).trans rfl, (blk_cell BK192.out 3).trans rfl⟩ (fun hHeld => ?_)
           clear hK K
           refine norm_ (a' := ?_) ?_ ?_
           rotate_left
           ·show Act.put _ (some 95) _ = _
            simp only [put_]
            rfl
           refine one_ (i := 27) (N := some 98) #[T_,T_,T_,T_,T_,T_,T_,T_,T_,T_,T_,T_,T_,T_,T_,T_,T_,T_,T_,T_,T_,T_,T_,T_,T_,T_,T_,T_,F_,F_] rfl rfl (one_of HT_.out (by kernel_rfl)) (by decide) (fun K hK => ?_)
           refine goes_ Try.func11 (by kernel_rfl) rfl #[.agg #[.int .u32 a1_0, .int .u32 a1_1, .int .u32 a1_2, .int .u32 a1_3], .agg #[.int .u32 a0_0, .int .u32 a0_1, .int .u32 a0_2, .int .u32 a0_3]] (by rfl) rfl rfl (by (try simp only [List.map_toArray, List.map_cons, List.map_nil]); first | done | rfl | (simp only [List.length_drop, List.length_take]; rfl) | (simp; done)) ?_
           with_reducible refine (rect_Meets.calls a1_0 a1_1 a1_2 a1_3 a0_0 a0_1 a0_2 a0_3 t200 _ A127.out).mono ?_
           rintro e w133 ⟨rfl, hb⟩
           refine ⟨_, rfl, ?_⟩
           replace BK172 := Aside0.mk (blk_below BK172.out hb)
           replace BK173 := Aside0.mk (blk_below BK173.out hb)
           replace BK174 := Aside0.mk (blk_below BK174.out hb)
           replace BK192 := Aside0.mk (blk_below BK192.out hb)
           replace HB := Aside0.mk (below_step (by repeat (first | (with_reducible first | exact HB.out | apply below_alloc | apply pw_below_drewN | apply below_drew1 | refine below_set ?_ GE172.out | refine below_set ?_ GE173.out | refine below_set ?_ GE174.out | refine below_set ?_ GE192.out) | exact HB.out)) hb)
           refine hK.out _ _ ⟨(blk_cell BK172.out 0).trans rfl, (blk_cell BK172.out 1).trans rfl, (blk_cell BK172.out 2).trans rfl, (blk_cell BK172.out 3).trans rfl, (blk_cell BK173.out 0).trans rfl, (blk_cell BK173.out 1).trans rfl, (blk_cell BK173.out 2).trans rfl, (blk_cell BK173.out 3).trans rfl, (blk_cell BK192.out 0).trans rfl, (blk_cell BK192.out 1).trans rfl, (blk_cell BK192.out 2).trans rfl, (blk_cell BK192.out 3).trans rfl⟩ (fun hHeld => ?_)
           clear hK K
           refine norm_ (a' := ?_) ?_ ?_
           rotate_left
           ·show Act.put _ (some 98) _ = _
            simp only [put_]
            rfl
           refine pure_ (i := 28) (N := some 99) (v := ?_) (a' := ?_) #[T_,T_,T_,T_,T_,T_,T_,T_,T_,T_,T_,T_,T_,T_,T_,T_,T_,T_,T_,T_,T_,T_,T_,T_,T_,T_,T_,T_,T_,F_] rfl rfl (any_of HT_.out (by kernel_rfl)) (fun _ _ _ h => h) (Or.inl ⟨by rfl, ?_⟩) ?_ ?_
           rotate_left; (intro w'; go_simp; with_reducible rfl); rotate_left; (simp only [put_]; rfl)
           refine pure_ (i := 29) (N := some 100) (v := ?_) (a' := ?_) #[T_,T_,T_,T_,T_,T_,T_,T_,T_,T_,T_,T_,T_,T_,T_,T_,T_,T_,T_,T_,T_,T_,T_,T_,T_,T_,T_,T_,T_,T_] rfl rfl (any_of HT_.out (by kernel_rfl)) (fun _ _ _ h => h) (Or.inl ⟨by rfl, ?_⟩) ?_ ?_
           rotate_left; (intro w'; go_simp; with_reducible rfl); rotate_left; (simp only [put_]; rfl)
           refine done_ (done_of HT_.out (by kernel_rfl)) ?_
           try go_wp2
           go_meet
           case rel => exact ⟨_, ((t199 != t200)), (by first | rfl | (simp; done) | (simp [*]; done)), H', ⟨by have := HJ24.out; have := HJ50.out; first | omega | exact Nat.le_refl _⟩, ⟨by exact BK172.out⟩, ⟨by exact BK173.out⟩, ⟨by exact BK174.out⟩, ⟨by exact BK192.out⟩, ⟨by repeat (first | (with_reducible first | exact HB.out | apply below_alloc | apply pw_below_drewN | apply below_drew1 | refine below_set ?_ GE172.out | refine below_set ?_ GE173.out | refine below_set ?_ GE174.out | refine below_set ?_ GE192.out) | exact HB.out)⟩⟩
       case rest =>
        clear HC79
        try clear c1
        try clear p2
        try clear c10
        try clear c11
        try clear c12
        try clear c121
        try clear c121b0
        try clear c121b1
        try clear c121b2
        obtain ⟨kq, x100_78, rfl, HA, HJ78, BK172, BK173, BK174, BK192, HB⟩ := hcut
        cases kq with
        | zero => exact absurd HA.out (by simp [counterpanelaw04_RectWhole.j2])
        | succ kj78 =>
         have H := HA.out
         clear HA
         simp only [counterpanelaw04_RectWhole.j2] at H
         by_cases c134 : x100_78 = true
         ·subst c134
          have H1 : (none) = some r := by rw [if_pos rfl] at H; exact H
          clear H
          have H := H1
          clear H1
          exact absurd H (by simp)
         ·replace c134 := Bool.eq_false_iff.mpr c134
          subst c134
          have H1 : ((rect_Hull.f a0_0 a0_1 a0_2 a0_3 a1_0 a1_1 a1_2 a1_3).bind fun bt201 => ((rect_Within.f a0_0 a0_1 a0_2 a0_3 bt201.1 bt201.2.1 bt201.2.2.1 bt201.2.2.2).bind fun t206 => (if t206 = true then ((rect_Within.f a1_0 a1_1 a1_2 a1_3 bt201.1 bt201.2.1 bt201.2.2.1 bt201.2.2.2).bind fun t207 => (if t207 = true then ((rect_Within.f a0_0 a0_1 a0_2 a0_3 a2_0 a2_1 a2_2 a2_3).bind fun t208 => (if t208 = true then ((rect_Within.f a1_0 a1_1 a1_2 a1_3 a2_0 a2_1 a2_2 a2_3).bind fun t209 => (if t209 = true then ((rect_Within.f bt201.1 bt201.2.1 bt201.2.2.1 bt201.2.2.2 a2_0 a2_1 a2_2 a2_3).bind fun t210 => (if t210 = true then ((counterpanelaw04_works.f).bind fun t211 => (some t211)) else (none))) else ((counterpanelaw04_works.f).bind fun t212 => (some t212)))) else ((counterpanelaw04_works.f).bind fun t213 => (some t213)))) else (none))) else (none)))) = some r := by rw [if_neg (show ¬ (false = true) by decide)] at H; exact H
          clear H
          have H := H1
          clear H1
          replace H := Option.bind_eq_some_iff.mp H
          obtain ⟨⟨t201, t202, t203, t204⟩, A1350, H⟩ := H
          replace H : ((rect_Within.f a0_0 a0_1 a0_2 a0_3 t201 t202 t203 t204).bind fun t206 => (if t206 = true then ((rect_Within.f a1_0 a1_1 a1_2 a1_3 t201 t202 t203 t204).bind fun t207 => (if t207 = true then ((rect_Within.f a0_0 a0_1 a0_2 a0_3 a2_0 a2_1 a2_2 a2_3).bind fun t208 => (if t208 = true then ((rect_Within.f a1_0 a1_1 a1_2 a1_3 a2_0 a2_1 a2_2 a2_3).bind fun t209 => (if t209 = true then ((rect_Within.f t201 t202 t203 t204 a2_0 a2_1 a2_2 a2_3).bind fun t210 => (if t210 = true then ((counterpanelaw04_works.f).bind fun t211 => (some t211)) else (none))) else ((counterpanelaw04_works.f).bind fun t212 => (some t212)))) else ((counterpanelaw04_works.f).bind fun t213 => (some t213)))) else (none))) else (none))) = some r := H
          have A135 := Aside0.mk A1350
          clear A1350
          replace H := Option.bind_eq_some_iff.mp H
          obtain ⟨t206, A1360, H⟩ := H
          replace H : (if t206 = true then ((rect_Within.f a1_0 a1_1 a1_2 a1_3 t201 t202 t203 t204).bind fun t207 => (if t207 = true then ((rect_Within.f a0_0 a0_1 a0_2 a0_3 a2_0 a2_1 a2_2 a2_3).bind fun t208 => (if t208 = true then ((rect_Within.f a1_0 a1_1 a1_2 a1_3 a2_0 a2_1 a2_2 a2_3).bind fun t209 => (if t209 = true then ((rect_Within.f t201 t202 t203 t204 a2_0 a2_1 a2_2 a2_3).bind fun t210 => (if t210 = true then ((counterpanelaw04_works.f).bind fun t211 => (some t211)) else (none))) else ((counterpanelaw04_works.f).bind fun t212 => (some t212)))) else ((counterpanelaw04_works.f).bind fun t213 => (some t213)))) else (none))) else (none)) = some r := H
          have A136 := Aside0.mk A1360
          clear A1360
          by_cases c137 : t206 = true
          ·subst c137
           have H1 : ((rect_Within.f a1_0 a1_1 a1_2 a1_3 t201 t202 t203 t204).bind fun t207 => (if t207 = true then ((rect_Within.f a0_0 a0_1 a0_2 a0_3 a2_0 a2_1 a2_2 a2_3).bind fun t208 => (if t208 = true then ((rect_Within.f a1_0 a1_1 a1_2 a1_3 a2_0 a2_1 a2_2 a2_3).bind fun t209 => (if t209 = true then ((rect_Within.f t201 t202 t203 t204 a2_0 a2_1 a2_2 a2_3).bind fun t210 => (if t210 = true then ((counterpanelaw04_works.f).bind fun t211 => (some t211)) else (none))) else ((counterpanelaw04_works.f).bind fun t212 => (some t212)))) else ((counterpanelaw04_works.f).bind fun t213 => (some t213)))) else (none))) = some r := by rw [if_pos rfl] at H; exact H
           clear H
           have H := H1
           clear H1
           replace H := Option.bind_eq_some_iff.mp H
           obtain ⟨t207, A1380, H⟩ := H
           replace H : (if t207 = true then ((rect_Within.f a0_0 a0_1 a0_2 a0_3 a2_0 a2_1 a2_2 a2_3).bind fun t208 => (if t208 = true then ((rect_Within.f a1_0 a1_1 a1_2 a1_3 a2_0 a2_1 a2_2 a2_3).bind fun t209 => (if t209 = true then ((rect_Within.f t201 t202 t203 t204 a2_0 a2_1 a2_2 a2_3).bind fun t210 => (if t210 = true then ((counterpanelaw04_works.f).bind fun t211 => (some t211)) else (none))) else ((counterpanelaw04_works.f).bind fun t212 => (some t212)))) else ((counterpanelaw04_works.f).bind fun t213 => (some t213)))) else (none)) = some r := H
           have A138 := Aside0.mk A1380
           clear A1380
           by_cases c139 : t207 = true
           ·subst c139
            have H1 : ((rect_Within.f a0_0 a0_1 a0_2 a0_3 a2_0 a2_1 a2_2 a2_3).bind fun t208 => (if t208 = true then ((rect_Within.f a1_0 a1_1 a1_2 a1_3 a2_0 a2_1 a2_2 a2_3).bind fun t209 => (if t209 = true then ((rect_Within.f t201 t202 t203 t204 a2_0 a2_1 a2_2 a2_3).bind fun t210 => (if t210 = true then ((counterpanelaw04_works.f).bind fun t211 => (some t211)) else (none))) else ((counterpanelaw04_works.f).bind fun t212 => (some t212)))) else ((counterpanelaw04_works.f).bind fun t213 => (some t213)))) = some r := by rw [if_pos rfl] at H; exact H
            clear H
            have H := H1
            clear H1
            replace H := Option.bind_eq_some_iff.mp H
            obtain ⟨t208, A1400, H⟩ := H
            replace H : (if t208 = true then ((rect_Within.f a1_0 a1_1 a1_2 a1_3 a2_0 a2_1 a2_2 a2_3).bind fun t209 => (if t209 = true then ((rect_Within.f t201 t202 t203 t204 a2_0 a2_1 a2_2 a2_3).bind fun t210 => (if t210 = true then ((counterpanelaw04_works.f).bind fun t211 => (some t211)) else (none))) else ((counterpanelaw04_works.f).bind fun t212 => (some t212)))) else ((counterpanelaw04_works.f).bind fun t213 => (some t213))) = some r := H
            have A140 := Aside0.mk A1400
            clear A1400
            by_cases c141 : t208 = true
            ·subst c141
             have H1 : ((rect_Within.f a1_0 a1_1 a1_2 a1_3 a2_0 a2_1 a2_2 a2_3).bind fun t209 => (if t209 = true then ((rect_Within.f t201 t202 t203 t204 a2_0 a2_1 a2_2 a2_3).bind fun t210 => (if t210 = true then ((counterpanelaw04_works.f).bind fun t211 => (some t211)) else (none))) else ((counterpanelaw04_works.f).bind fun t212 => (some t212)))) = some r := by rw [if_pos rfl] at H; exact H
             clear H
             have H := H1
             clear H1
             replace H := Option.bind_eq_some_iff.mp H
             obtain ⟨t209, A1420, H⟩ := H
             replace H : (if t209 = true then ((rect_Within.f t201 t202 t203 t204 a2_0 a2_1 a2_2 a2_3).bind fun t210 => (if t210 = true then ((counterpanelaw04_works.f).bind fun t211 => (some t211)) else (none))) else ((counterpanelaw04_works.f).bind fun t212 => (some t212))) = some r := H
             have A142 := Aside0.mk A1420
             clear A1420
             by_cases c143 : t209 = true
             ·subst c143
              have H1 : ((rect_Within.f t201 t202 t203 t204 a2_0 a2_1 a2_2 a2_3).bind fun t210 => (if t210 = true then ((counterpanelaw04_works.f).bind fun t211 => (some t211)) else (none))) = some r := by rw [if_pos rfl] at H; exact H
              clear H
              have H := H1
              clear H1
              replace H := Option.bind_eq_some_iff.mp H
              obtain ⟨t210, A1440, H⟩ := H
              replace H : (if t210 = true then ((counterpanelaw04_works.f).bind fun t211 => (some t211)) else (none)) = some r := H
              have A144 := Aside0.mk A1440
              clear A1440
              by_cases c145 : t210 = true
              ·subst c145
               have H1 : ((counterpanelaw04_works.f).bind fun t211 => (some t211)) = some r := by rw [if_pos rfl] at H; exact H
               clear H
               have H := H1
               clear H1
               replace H := Option.bind_eq_some_iff.mp H
               obtain ⟨t211, A1460, H⟩ := H
               replace H : (some t211) = some r := H
               have A146 := Aside0.mk A1460
               clear A1460
               obtain rfl := Option.some.inj H
               have hnb147 := NB172_173.out
               have hnc147 := NB173_172.out
               have hnb148 := NB172_174.out
               have hnc148 := NB174_172.out
               have hnb149 := NB172_192.out
               have hnc149 := NB192_172.out
               have hcz150_0 : wc.cell? ⟨gb172, 0, none⟩ = some (.int .u32 a0_0) := (blk_cell BK172.out 0).trans rfl
               have hcz150_1 : wc.cell? ⟨gb172, 1, none⟩ = some (.int .u32 a0_1) := (blk_cell BK172.out 1).trans rfl
               have hcz150_2 : wc.cell? ⟨gb172, 2, none⟩ = some (.int .u32 a0_2) := (blk_cell BK172.out 2).trans rfl
               have hcz150_3 : wc.cell? ⟨gb172, 3, none⟩ = some (.int .u32 a0_3) := (blk_cell BK172.out 3).trans rfl
               have hfz150_0 := blk_frozen BK172.out 0
               have hfz150_1 := blk_frozen BK172.out 1
               have hfz150_2 := blk_frozen BK172.out 2
               have hfz150_3 := blk_frozen BK172.out 3
               have hnb151 := NB173_174.out
               have hnc151 := NB174_173.out
               have hnb152 := NB173_192.out
               have hnc152 := NB192_173.out
               have hcz153_0 : wc.cell? ⟨gb173, 0, none⟩ = some (.int .u32 a1_0) := (blk_cell BK173.out 0).trans rfl
               have hcz153_1 : wc.cell? ⟨gb173, 1, none⟩ = some (.int .u32 a1_1) := (blk_cell BK173.out 1).trans rfl
               have hcz153_2 : wc.cell? ⟨gb173, 2, none⟩ = some (.int .u32 a1_2) := (blk_cell BK173.out 2).trans rfl
               have hcz153_3 : wc.cell? ⟨gb173, 3, none⟩ = some (.int .u32 a1_3) := (blk_cell BK173.out 3).trans rfl
               have hfz153_0 := blk_frozen BK173.out 0
               have hfz153_1 := blk_frozen BK173.out 1
               have hfz153_2 := blk_frozen BK173.out 2
               have hfz153_3 := blk_frozen BK173.out 3
               go_wp2_with (first | ((with_reducible refine gate_callee (f := 9) rfl ?_); refine goesL_ (some 103) rfl rfl Try.func9 (by kernel_rfl) rfl #[.agg #[.int .u32 a0_0, .int .u32 a0_1, .int .u32 a0_2, .int .u32 a0_3], .agg #[.int .u32 a1_0, .int .u32 a1_1, .int .u32 a1_2, .int .u32 a1_3]] rfl (by (try simp only [List.map_toArray, List.map_cons, List.map_nil]); first | done | rfl | (simp only [List.length_drop, List.length_take]; rfl) | (simp; done)) ?_; (with_reducible refine (rect_Hull.calls a0_0 a0_1 a0_2 a0_3 a1_0 a1_1 a1_2 a1_3 t201 t202 t203 t204 _ A135.out).mono ?_); rintro e w154 ⟨rfl, hb⟩; refine ⟨_, rfl, ?_⟩; replace BK172 := Aside0.mk (blk_below BK172.out hb); replace BK173 := Aside0.mk (blk_below BK173.out hb); replace BK174 := Aside0.mk (blk_below BK174.out hb); replace BK192 := Aside0.mk (blk_below BK192.out hb); replace HB := Aside0.mk (below_step (by repeat (first | (with_reducible first | exact HB.out | apply below_alloc | apply pw_below_drewN | apply below_drew1 | refine below_set ?_ GE172.out | refine below_set ?_ GE173.out | refine below_set ?_ GE174.out | refine below_set ?_ GE192.out) | exact HB.out)) hb); (try clear hb); (try clear hb2); (try clear hk); (try clear hi)) | ((with_reducible refine gate_dst (N := 9) rfl ?_); refine box_event ?hg (N := 9) ?hd (cs := #[.int .u32 0, .int .u32 0, .int .u32 0, .int .u32 0]) (t := 24) ?hr ?_; (case hd => rfl); (case hg => rfl); (case hr => first | (go_simp; done) | (go_simp; rfl)); intro gb205 hg w155 hbox hb; have n0_ := Aside0.mk (blk_below BK172.out hb); have n1_ := Aside0.mk (blk_below BK173.out hb); have n2_ := Aside0.mk (blk_below BK174.out hb); have n3_ := Aside0.mk (blk_below BK192.out hb); have n4_ := Aside0.mk (below_step (by repeat (first | (with_reducible first | exact HB.out | apply below_alloc | apply pw_below_drewN | apply below_drew1 | refine below_set ?_ GE172.out | refine below_set ?_ GE173.out | refine below_set ?_ GE174.out | refine below_set ?_ GE192.out) | exact HB.out)) hb); have n5_ := Aside0.mk (hbox); have n6_ := Aside0.mk ((by rw [hg]; exact (below_size (by repeat (first | (with_reducible first | exact HB.out | apply below_alloc | apply pw_below_drewN | apply below_drew1 | refine below_set ?_ GE172.out | refine below_set ?_ GE173.out | refine below_set ?_ GE174.out | refine below_set ?_ GE192.out) | exact HB.out))) : w.heap.size ≤ gb205)); have n7_ := Aside0.mk ((by rw [hg]; exact (below_size (by repeat (first | (with_reducible first | exact HB.out | apply below_alloc | apply pw_below_drewN | apply below_drew1 | refine below_set ?_ GE172.out | refine below_set ?_ GE173.out | refine below_set ?_ GE174.out | refine below_set ?_ GE192.out) | exact HB.out))) : w.heap.size ≤ gb205)); have n8_ := Aside0.mk ((by rw [hg]; exact Nat.ne_of_lt (blk_lt BK172.out) : gb172 ≠ gb205)); have n9_ := Aside0.mk ((by rw [hg]; exact Nat.ne_of_gt (blk_lt BK172.out) : gb205 ≠ gb172)); have n10_ := Aside0.mk ((by rw [hg]; exact Nat.ne_of_lt (blk_lt BK173.out) : gb173 ≠ gb205)); have n11_ := Aside0.mk ((by rw [hg]; exact Nat.ne_of_gt (blk_lt BK173.out) : gb205 ≠ gb173)); have n12_ := Aside0.mk ((by rw [hg]; exact Nat.ne_of_lt (blk_lt BK174.out) : gb174 ≠ gb205)); have n13_ := Aside0.mk ((by rw [hg]; exact Nat.ne_of_gt (blk_lt BK174.out) : gb205 ≠ gb174)); have n14_ := Aside0.mk ((by rw [hg]; exact Nat.ne_of_lt (blk_lt BK192.out) : gb192 ≠ gb205)); have n15_ := Aside0.mk ((by rw [hg]; exact Nat.ne_of_gt (blk_lt BK192.out) : gb205 ≠ gb192)); clear BK172; clear BK173; clear BK174; clear BK192; clear HB; have BK172 := n0_; have BK173 := n1_; have BK174 := n2_; have BK192 := n3_; have HB := n4_; have BK205 := n5_; have GW205 := n6_; have GE205 := n7_; have NB172_205 := n8_; have NB205_172 := n9_; have NB173_205 := n10_; have NB205_173 := n11_; have NB174_205 := n12_; have NB205_174 := n13_; have NB192_205 := n14_; have NB205_192 := n15_; clear n0_ n1_ n2_ n3_ n4_ n5_ n6_ n7_ n8_ n9_ n10_ n11_ n12_ n13_ n14_ n15_; clear hb hbox hg; have hnb156 := NB205_172.out; have hnc156 := NB172_205.out; have hnb157 := NB205_173.out; have hnc157 := NB173_205.out; have hnb158 := NB205_174.out; have hnc158 := NB174_205.out; have hnb159 := NB205_192.out; have hnc159 := NB192_205.out; have hcz160_0 : w155.cell? ⟨gb205, 0, none⟩ = some (.int .u32 0) := (blk_cell BK205.out 0).trans rfl; have hcz160_1 : w155.cell? ⟨gb205, 1, none⟩ = some (.int .u32 0) := (blk_cell BK205.out 1).trans rfl; have hcz160_2 : w155.cell? ⟨gb205, 2, none⟩ = some (.int .u32 0) := (blk_cell BK205.out 2).trans rfl; have hcz160_3 : w155.cell? ⟨gb205, 3, none⟩ = some (.int .u32 0) := (blk_cell BK205.out 3).trans rfl; have hfz160_0 := blk_frozen BK205.out 0; have hfz160_1 := blk_frozen BK205.out 1; have hfz160_2 := blk_frozen BK205.out 2; have hfz160_3 := blk_frozen BK205.out 3; have hcz161_0 : w155.cell? ⟨gb172, 0, none⟩ = some (.int .u32 a0_0) := (blk_cell BK172.out 0).trans rfl; have hcz161_1 : w155.cell? ⟨gb172, 1, none⟩ = some (.int .u32 a0_1) := (blk_cell BK172.out 1).trans rfl; have hcz161_2 : w155.cell? ⟨gb172, 2, none⟩ = some (.int .u32 a0_2) := (blk_cell BK172.out 2).trans rfl; have hcz161_3 : w155.cell? ⟨gb172, 3, none⟩ = some (.int .u32 a0_3) := (blk_cell BK172.out 3).trans rfl; have hfz161_0 := blk_frozen BK172.out 0; have hfz161_1 := blk_frozen BK172.out 1; have hfz161_2 := blk_frozen BK172.out 2; have hfz161_3 := blk_frozen BK172.out 3) | ((with_reducible refine gate_callee (f := 12) rfl ?_); refine goesL_ (some 106) rfl rfl Try.func12 (by kernel_rfl) rfl #[.agg #[.int .u32 a0_0, .int .u32 a0_1, .int .u32 a0_2, .int .u32 a0_3], .agg #[.int .u32 t201, .int .u32 t202, .int .u32 t203, .int .u32 t204]] rfl (by (try simp only [List.map_toArray, List.map_cons, List.map_nil]); first | done | rfl | (simp only [List.length_drop, List.length_take]; rfl) | (simp; done)) ?_; (with_reducible refine (rect_Within.calls a0_0 a0_1 a0_2 a0_3 t201 t202 t203 t204 true _ A136.out).mono ?_); rintro e w162 ⟨rfl, hb⟩; refine ⟨_, rfl, ?_⟩; have n0_ := Aside0.mk (blk_below (g := gb172) (o := .cells #[.int .u32 a0_0, .int .u32 a0_1, .int .u32 a0_2, .int .u32 a0_3] 24 (0, 0)) (by refine blk_far ?_ NB172_205.out _; refine blk_far ?_ NB172_205.out _; refine blk_far ?_ NB172_205.out _; refine blk_far ?_ NB172_205.out _; exact BK172.out) hb); have n1_ := Aside0.mk (blk_below (g := gb173) (o := .cells #[.int .u32 a1_0, .int .u32 a1_1, .int .u32 a1_2, .int .u32 a1_3] 24 (0, 0)) (by refine blk_far ?_ NB173_205.out _; refine blk_far ?_ NB173_205.out _; refine blk_far ?_ NB173_205.out _; refine blk_far ?_ NB173_205.out _; exact BK173.out) hb); have n2_ := Aside0.mk (blk_below (g := gb174) (o := .cells #[.int .u32 a2_0, .int .u32 a2_1, .int .u32 a2_2, .int .u32 a2_3] 24 (0, 0)) (by refine blk_far ?_ NB174_205.out _; refine blk_far ?_ NB174_205.out _; refine blk_far ?_ NB174_205.out _; refine blk_far ?_ NB174_205.out _; exact BK174.out) hb); have n3_ := Aside0.mk (blk_below (g := gb192) (o := .cells #[.int .u32 t188, .int .u32 t189, .int .u32 t190, .int .u32 t191] 24 (0, 0)) (by refine blk_far ?_ NB192_205.out _; refine blk_far ?_ NB192_205.out _; refine blk_far ?_ NB192_205.out _; refine blk_far ?_ NB192_205.out _; exact BK192.out) hb); have n4_ := Aside0.mk (blk_below (g := gb205) (o := .cells #[.int .u32 t201, .int .u32 t202, .int .u32 t203, .int .u32 t204] 24 (0, 0)) (by refine blk_put (cs := #[.int .u32 t201, .int .u32 t202, .int .u32 t203, .int .u32 0]) ?_ 3 _ (by first | rfl | simp); refine blk_put (cs := #[.int .u32 t201, .int .u32 t202, .int .u32 0, .int .u32 0]) ?_ 2 _ (by first | rfl | simp); refine blk_put (cs := #[.int .u32 t201, .int .u32 0, .int .u32 0, .int .u32 0]) ?_ 1 _ (by first | rfl | simp); refine blk_put (cs := #[.int .u32 0, .int .u32 0, .int .u32 0, .int .u32 0]) ?_ 0 _ (by first | rfl | simp); exact BK205.out) hb); have n5_ := Aside0.mk (below_step (by repeat (first | (with_reducible first | exact HB.out | apply below_alloc | apply pw_below_drewN | apply below_drew1 | refine below_set ?_ GE172.out | refine below_set ?_ GE173.out | refine below_set ?_ GE174.out | refine below_set ?_ GE192.out | refine below_set ?_ GE205.out) | exact HB.out)) hb); clear BK172; clear BK173; clear BK174; clear BK192; clear BK205; clear HB; have BK172 := n0_; have BK173 := n1_; have BK174 := n2_; have BK192 := n3_; have BK205 := n4_; have HB := n5_; clear n0_ n1_ n2_ n3_ n4_ n5_; (try clear hb); (try clear hb2); (try clear hk); (try clear hi); have hcz163_0 : w162.cell? ⟨gb173, 0, none⟩ = some (.int .u32 a1_0) := (blk_cell BK173.out 0).trans rfl; have hcz163_1 : w162.cell? ⟨gb173, 1, none⟩ = some (.int .u32 a1_1) := (blk_cell BK173.out 1).trans rfl; have hcz163_2 : w162.cell? ⟨gb173, 2, none⟩ = some (.int .u32 a1_2) := (blk_cell BK173.out 2).trans rfl; have hcz163_3 : w162.cell? ⟨gb173, 3, none⟩ = some (.int .u32 a1_3) := (blk_cell BK173.out 3).trans rfl; have hfz163_0 := blk_frozen BK173.out 0; have hfz163_1 := blk_frozen BK173.out 1; have hfz163_2 := blk_frozen BK173.out 2; have hfz163_3 := blk_frozen BK173.out 3; have hcz164_0 : w162.cell? ⟨gb205, 0, none⟩ = some (.int .u32 t201) := (blk_cell BK205.out 0).trans rfl; have hcz164_1 : w162.cell? ⟨gb205, 1, none⟩ = some (.int .u32 t202) := (blk_cell BK205.out 1).trans rfl; have hcz164_2 : w162.cell? ⟨gb205, 2, none⟩ = some (.int .u32 t203) := (blk_cell BK205.out 2).trans rfl; have hcz164_3 : w162.cell? ⟨gb205, 3, none⟩ = some (.int .u32 t204) := (blk_cell BK205.out 3).trans rfl; have hfz164_0 := blk_frozen BK205.out 0; have hfz164_1 := blk_frozen BK205.out 1; have hfz164_2 := blk_frozen BK205.out 2; have hfz164_3 := blk_frozen BK205.out 3) | (go_at_call 12; (with_reducible refine (rect_Within.calls a1_0 a1_1 a1_2 a1_3 t201 t202 t203 t204 true _ A138.out).mono ?_); rintro e w165 ⟨rfl, hb⟩; replace BK172 := Aside0.mk (blk_below BK172.out hb); replace BK173 := Aside0.mk (blk_below BK173.out hb); replace BK174 := Aside0.mk (blk_below BK174.out hb); replace BK192 := Aside0.mk (blk_below BK192.out hb); replace BK205 := Aside0.mk (blk_below BK205.out hb); replace HB := Aside0.mk (below_step (by repeat (first | (with_reducible first | exact HB.out | apply below_alloc | apply pw_below_drewN | apply below_drew1 | refine below_set ?_ GE172.out | refine below_set ?_ GE173.out | refine below_set ?_ GE174.out | refine below_set ?_ GE192.out | refine below_set ?_ GE205.out) | exact HB.out)) hb); (try clear hb); (try clear hb2); (try clear hk); (try clear hi); have hcz166_0 : w165.cell? ⟨gb172, 0, none⟩ = some (.int .u32 a0_0) := (blk_cell BK172.out 0).trans rfl; have hcz166_1 : w165.cell? ⟨gb172, 1, none⟩ = some (.int .u32 a0_1) := (blk_cell BK172.out 1).trans rfl; have hcz166_2 : w165.cell? ⟨gb172, 2, none⟩ = some (.int .u32 a0_2) := (blk_cell BK172.out 2).trans rfl; have hcz166_3 : w165.cell? ⟨gb172, 3, none⟩ = some (.int .u32 a0_3) := (blk_cell BK172.out 3).trans rfl; have hfz166_0 := blk_frozen BK172.out 0; have hfz166_1 := blk_frozen BK172.out 1; have hfz166_2 := blk_frozen BK172.out 2; have hfz166_3 := blk_frozen BK172.out 3; have hnb167 := NB174_192.out; have hnc167 := NB192_174.out; have hcz168_0 : w165.cell? ⟨gb174, 0, none⟩ = some (.int .u32 a2_0) := (blk_cell BK174.out 0).trans rfl; have hcz168_1 : w165.cell? ⟨gb174, 1, none⟩ = some (.int .u32 a2_1) := (blk_cell BK174.out 1).trans rfl; have hcz168_2 : w165.cell? ⟨gb174, 2, none⟩ = some (.int .u32 a2_2) := (blk_cell BK174.out 2).trans rfl; have hcz168_3 : w165.cell? ⟨gb174, 3, none⟩ = some (.int .u32 a2_3) := (blk_cell BK174.out 3).trans rfl; have hfz168_0 := blk_frozen BK174.out 0; have hfz168_1 := blk_frozen BK174.out 1; have hfz168_2 := blk_frozen BK174.out 2; have hfz168_3 := blk_frozen BK174.out 3) | (go_at_call 12; (with_reducible refine (rect_Within.calls a0_0 a0_1 a0_2 a0_3 a2_0 a2_1 a2_2 a2_3 true _ A140.out).mono ?_); rintro e w169 ⟨rfl, hb⟩; replace BK172 := Aside0.mk (blk_below BK172.out hb); replace BK173 := Aside0.mk (blk_below BK173.out hb); replace BK174 := Aside0.mk (blk_below BK174.out hb); replace BK192 := Aside0.mk (blk_below BK192.out hb); replace BK205 := Aside0.mk (blk_below BK205.out hb); replace HB := Aside0.mk (below_step (by repeat (first | (with_reducible first | exact HB.out | apply below_alloc | apply pw_below_drewN | apply below_drew1 | refine below_set ?_ GE172.out | refine below_set ?_ GE173.out | refine below_set ?_ GE174.out | refine below_set ?_ GE192.out | refine below_set ?_ GE205.out) | exact HB.out)) hb); (try clear hb); (try clear hb2); (try clear hk); (try clear hi); have hcz170_0 : w169.cell? ⟨gb173, 0, none⟩ = some (.int .u32 a1_0) := (blk_cell BK173.out 0).trans rfl; have hcz170_1 : w169.cell? ⟨gb173, 1, none⟩ = some (.int .u32 a1_1) := (blk_cell BK173.out 1).trans rfl; have hcz170_2 : w169.cell? ⟨gb173, 2, none⟩ = some (.int .u32 a1_2) := (blk_cell BK173.out 2).trans rfl; have hcz170_3 : w169.cell? ⟨gb173, 3, none⟩ = some (.int .u32 a1_3) := (blk_cell BK173.out 3).trans rfl; have hfz170_0 := blk_frozen BK173.out 0; have hfz170_1 := blk_frozen BK173.out 1; have hfz170_2 := blk_frozen BK173.out 2; have hfz170_3 := blk_frozen BK173.out 3; have hcz171_0 : w169.cell? ⟨gb174, 0, none⟩ = some (.int .u32 a2_0) := (blk_cell BK174.out 0).trans rfl; have hcz171_1 : w169.cell? ⟨gb174, 1, none⟩ = some (.int .u32 a2_1) := (blk_cell BK174.out 1).trans rfl; have hcz171_2 : w169.cell? ⟨gb174, 2, none⟩ = some (.int .u32 a2_2) := (blk_cell BK174.out 2).trans rfl; have hcz171_3 : w169.cell? ⟨gb174, 3, none⟩ = some (.int .u32 a2_3) := (blk_cell BK174.out 3).trans rfl; have hfz171_0 := blk_frozen BK174.out 0; have hfz171_1 := blk_frozen BK174.out 1; have hfz171_2 := blk_frozen BK174.out 2; have hfz171_3 := blk_frozen BK174.out 3) | (go_at_call 12; (with_reducible refine (rect_Within.calls a1_0 a1_1 a1_2 a1_3 a2_0 a2_1 a2_2 a2_3 true _ A142.out).mono ?_); rintro e w172 ⟨rfl, hb⟩; replace BK172 := Aside0.mk (blk_below BK172.out hb); replace BK173 := Aside0.mk (blk_below BK173.out hb); replace BK174 := Aside0.mk (blk_below BK174.out hb); replace BK192 := Aside0.mk (blk_below BK192.out hb); replace BK205 := Aside0.mk (blk_below BK205.out hb); replace HB := Aside0.mk (below_step (by repeat (first | (with_reducible first | exact HB.out | apply below_alloc | apply pw_below_drewN | apply below_drew1 | refine below_set ?_ GE172.out | refine below_set ?_ GE173.out | refine below_set ?_ GE174.out | refine below_set ?_ GE192.out | refine below_set ?_ GE205.out) | exact HB.out)) hb); (try clear hb); (try clear hb2); (try clear hk); (try clear hi); have hcz173_0 : w172.cell? ⟨gb205, 0, none⟩ = some (.int .u32 t201) := (blk_cell BK205.out 0).trans rfl; have hcz173_1 : w172.cell? ⟨gb205, 1, none⟩ = some (.int .u32 t202) := (blk_cell BK205.out 1).trans rfl; have hcz173_2 : w172.cell? ⟨gb205, 2, none⟩ = some (.int .u32 t203) := (blk_cell BK205.out 2).trans rfl; have hcz173_3 : w172.cell? ⟨gb205, 3, none⟩ = some (.int .u32 t204) := (blk_cell BK205.out 3).trans rfl; have hfz173_0 := blk_frozen BK205.out 0; have hfz173_1 := blk_frozen BK205.out 1; have hfz173_2 := blk_frozen BK205.out 2; have hfz173_3 := blk_frozen BK205.out 3; have hcz174_0 : w172.cell? ⟨gb174, 0, none⟩ = some (.int .u32 a2_0) := (blk_cell BK174.out 0).trans rfl; have hcz174_1 : w172.cell? ⟨gb174, 1, none⟩ = some (.int .u32 a2_1) := (blk_cell BK174.out 1).trans rfl; have hcz174_2 : w172.cell? ⟨gb174, 2, none⟩ = some (.int .u32 a2_2) := (blk_cell BK174.out 2).trans rfl; have hcz174_3 : w172.cell? ⟨gb174, 3, none⟩ = some (.int .u32 a2_3) := (blk_cell BK174.out 3).trans rfl; have hfz174_0 := blk_frozen BK174.out 0; have hfz174_1 := blk_frozen BK174.out 1; have hfz174_2 := blk_frozen BK174.out 2; have hfz174_3 := blk_frozen BK174.out 3) | (go_at_call 12; (with_reducible refine (rect_Within.calls t201 t202 t203 t204 a2_0 a2_1 a2_2 a2_3 true _ A144.out).mono ?_); rintro e w175 ⟨rfl, hb⟩; replace BK172 := Aside0.mk (blk_below BK172.out hb); replace BK173 := Aside0.mk (blk_below BK173.out hb); replace BK174 := Aside0.mk (blk_below BK174.out hb); replace BK192 := Aside0.mk (blk_below BK192.out hb); replace BK205 := Aside0.mk (blk_below BK205.out hb); replace HB := Aside0.mk (below_step (by repeat (first | (with_reducible first | exact HB.out | apply below_alloc | apply pw_below_drewN | apply below_drew1 | refine below_set ?_ GE172.out | refine below_set ?_ GE173.out | refine below_set ?_ GE174.out | refine below_set ?_ GE192.out | refine below_set ?_ GE205.out) | exact HB.out)) hb); (try clear hb); (try clear hb2); (try clear hk); (try clear hi)) | (go_at_call 14; (with_reducible refine (counterpanelaw04_works.calls  t211 _ A146.out).mono ?_); rintro e w176 ⟨rfl, hb⟩; replace BK172 := Aside0.mk (blk_below BK172.out hb); replace BK173 := Aside0.mk (blk_below BK173.out hb); replace BK174 := Aside0.mk (blk_below BK174.out hb); replace BK192 := Aside0.mk (blk_below BK192.out hb); replace BK205 := Aside0.mk (blk_below BK205.out hb); replace HB := Aside0.mk (below_step (by repeat (first | (with_reducible first | exact HB.out | apply below_alloc | apply pw_below_drewN | apply below_drew1 | refine below_set ?_ GE172.out | refine below_set ?_ GE173.out | refine below_set ?_ GE174.out | refine below_set ?_ GE192.out | refine below_set ?_ GE205.out) | exact HB.out)) hb); (try clear hb); (try clear hb2); (try clear hk); (try clear hi)))
               go_ret
               exact ⟨by first | rfl | (simp [errW_none, errW_some] <;> rfl) | (simp [*, errW_none, errW_some] <;> rfl), by repeat (first | (with_reducible first | exact HB.out | apply below_alloc | apply pw_below_drewN | apply below_drew1 | refine below_set ?_ GE172.out | refine below_set ?_ GE173.out | refine below_set ?_ GE174.out | refine below_set ?_ GE192.out | refine below_set ?_ GE205.out) | exact HB.out)⟩
              ·replace c145 := Bool.eq_false_iff.mpr c145
               subst c145
               have H1 : (none) = some r := by rw [if_neg (show ¬ (false = true) by decide)] at H; exact H
               clear H
               have H := H1
               clear H1
               exact absurd H (by simp)
             ·replace c143 := Bool.eq_false_iff.mpr c143
              subst c143
              have H1 : ((counterpanelaw04_works.f).bind fun t212 => (some t212)) = some r := by rw [if_neg (show ¬ (false = true) by decide)] at H; exact H
              clear H
              have H := H1
              clear H1
              replace H := Option.bind_eq_some_iff.mp H
              obtain ⟨t212, A1770, H⟩ := H
              replace H : (some t212) = some r := H
              have A177 := Aside0.mk A1770
              clear A1770
              obtain rfl := Option.some.inj H
              have hnb178 := NB172_173.out
              have hnc178 := NB173_172.out
              have hnb179 := NB172_174.out
              have hnc179 := NB174_172.out
              have hnb180 := NB172_192.out
              have hnc180 := NB192_172.out
              have hcz181_0 : wc.cell? ⟨gb172, 0, none⟩ = some (.int .u32 a0_0) := (blk_cell BK172.out 0).trans rfl
              have hcz181_1 : wc.cell? ⟨gb172, 1, none⟩ = some (.int .u32 a0_1) := (blk_cell BK172.out 1).trans rfl
              have hcz181_2 : wc.cell? ⟨gb172, 2, none⟩ = some (.int .u32 a0_2) := (blk_cell BK172.out 2).trans rfl
              have hcz181_3 : wc.cell? ⟨gb172, 3, none⟩ = some (.int .u32 a0_3) := (blk_cell BK172.out 3).trans rfl
              have hfz181_0 := blk_frozen BK172.out 0
              have hfz181_1 := blk_frozen BK172.out 1
              have hfz181_2 := blk_frozen BK172.out 2
              have hfz181_3 := blk_frozen BK172.out 3
              have hnb182 := NB173_174.out
              have hnc182 := NB174_173.out
              have hnb183 := NB173_192.out
              have hnc183 := NB192_173.out
              have hcz184_0 : wc.cell? ⟨gb173, 0, none⟩ = some (.int .u32 a1_0) := (blk_cell BK173.out 0).trans rfl
              have hcz184_1 : wc.cell? ⟨gb173, 1, none⟩ = some (.int .u32 a1_1) := (blk_cell BK173.out 1).trans rfl
              have hcz184_2 : wc.cell? ⟨gb173, 2, none⟩ = some (.int .u32 a1_2) := (blk_cell BK173.out 2).trans rfl
              have hcz184_3 : wc.cell? ⟨gb173, 3, none⟩ = some (.int .u32 a1_3) := (blk_cell BK173.out 3).trans rfl
              have hfz184_0 := blk_frozen BK173.out 0
              have hfz184_1 := blk_frozen BK173.out 1
              have hfz184_2 := blk_frozen BK173.out 2
              have hfz184_3 := blk_frozen BK173.out 3
              go_wp2_with (first | ((with_reducible refine gate_callee (f := 9) rfl ?_); refine goesL_ (some 103) rfl rfl Try.func9 (by kernel_rfl) rfl #[.agg #[.int .u32 a0_0, .int .u32 a0_1, .int .u32 a0_2, .int .u32 a0_3], .agg #[.int .u32 a1_0, .int .u32 a1_1, .int .u32 a1_2, .int .u32 a1_3]] rfl (by (try simp only [List.map_toArray, List.map_cons, List.map_nil]); first | done | rfl | (simp only [List.length_drop, List.length_take]; rfl) | (simp; done)) ?_; (with_reducible refine (rect_Hull.calls a0_0 a0_1 a0_2 a0_3 a1_0 a1_1 a1_2 a1_3 t201 t202 t203 t204 _ A135.out).mono ?_); rintro e w185 ⟨rfl, hb⟩; refine ⟨_, rfl, ?_⟩; replace BK172 := Aside0.mk (blk_below BK172.out hb); replace BK173 := Aside0.mk (blk_below BK173.out hb); replace BK174 := Aside0.mk (blk_below BK174.out hb); replace BK192 := Aside0.mk (blk_below BK192.out hb); replace HB := Aside0.mk (below_step (by repeat (first | (with_reducible first | exact HB.out | apply below_alloc | apply pw_below_drewN | apply below_drew1 | refine below_set ?_ GE172.out | refine below_set ?_ GE173.out | refine below_set ?_ GE174.out | refine below_set ?_ GE192.out) | exact HB.out)) hb); (try clear hb); (try clear hb2); (try clear hk); (try clear hi)) | ((with_reducible refine gate_dst (N := 9) rfl ?_); refine box_event ?hg (N := 9) ?hd (cs := #[.int .u32 0, .int .u32 0, .int .u32 0, .int .u32 0]) (t := 24) ?hr ?_; (case hd => rfl); (case hg => rfl); (case hr => first | (go_simp; done) | (go_simp; rfl)); intro gb205 hg w186 hbox hb; have n0_ := Aside0.mk (blk_below BK172.out hb); have n1_ := Aside0.mk (blk_below BK173.out hb); have n2_ := Aside0.mk (blk_below BK174.out hb); have n3_ := Aside0.mk (blk_below BK192.out hb); have n4_ := Aside0.mk (below_step (by repeat (first | (with_reducible first | exact HB.out | apply below_alloc | apply pw_below_drewN | apply below_drew1 | refine below_set ?_ GE172.out | refine below_set ?_ GE173.out | refine below_set ?_ GE174.out | refine below_set ?_ GE192.out) | exact HB.out)) hb); have n5_ := Aside0.mk (hbox); have n6_ := Aside0.mk ((by rw [hg]; exact (below_size (by repeat (first | (with_reducible first | exact HB.out | apply below_alloc | apply pw_below_drewN | apply below_drew1 | refine below_set ?_ GE172.out | refine below_set ?_ GE173.out | refine below_set ?_ GE174.out | refine below_set ?_ GE192.out) | exact HB.out))) : w.heap.size ≤ gb205)); have n7_ := Aside0.mk ((by rw [hg]; exact (below_size (by repeat (first | (with_reducible first | exact HB.out | apply below_alloc | apply pw_below_drewN | apply below_drew1 | refine below_set ?_ GE172.out | refine below_set ?_ GE173.out | refine below_set ?_ GE174.out | refine below_set ?_ GE192.out) | exact HB.out))) : w.heap.size ≤ gb205)); have n8_ := Aside0.mk ((by rw [hg]; exact Nat.ne_of_lt (blk_lt BK172.out) : gb172 ≠ gb205)); have n9_ := Aside0.mk ((by rw [hg]; exact Nat.ne_of_gt (blk_lt BK172.out) : gb205 ≠ gb172)); have n10_ := Aside0.mk ((by rw [hg]; exact Nat.ne_of_lt (blk_lt BK173.out) : gb173 ≠ gb205)); have n11_ := Aside0.mk ((by rw [hg]; exact Nat.ne_of_gt (blk_lt BK173.out) : gb205 ≠ gb173)); have n12_ := Aside0.mk ((by rw [hg]; exact Nat.ne_of_lt (blk_lt BK174.out) : gb174 ≠ gb205)); have n13_ := Aside0.mk ((by rw [hg]; exact Nat.ne_of_gt (blk_lt BK174.out) : gb205 ≠ gb174)); have n14_ := Aside0.mk ((by rw [hg]; exact Nat.ne_of_lt (blk_lt BK192.out) : gb192 ≠ gb205)); have n15_ := Aside0.mk ((by rw [hg]; exact Nat.ne_of_gt (blk_lt BK192.out) : gb205 ≠ gb192)); clear BK172; clear BK173; clear BK174; clear BK192; clear HB; have BK172 := n0_; have BK173 := n1_; have BK174 := n2_; have BK192 := n3_; have HB := n4_; have BK205 := n5_; have GW205 := n6_; have GE205 := n7_; have NB172_205 := n8_; have NB205_172 := n9_; have NB173_205 := n10_; have NB205_173 := n11_; have NB174_205 := n12_; have NB205_174 := n13_; have NB192_205 := n14_; have NB205_192 := n15_; clear n0_ n1_ n2_ n3_ n4_ n5_ n6_ n7_ n8_ n9_ n10_ n11_ n12_ n13_ n14_ n15_; clear hb hbox hg; have hnb187 := NB205_172.out; have hnc187 := NB172_205.out; have hnb188 := NB205_173.out; have hnc188 := NB173_205.out; have hnb189 := NB205_174.out; have hnc189 := NB174_205.out; have hnb190 := NB205_192.out; have hnc190 := NB192_205.out; have hcz191_0 : w186.cell? ⟨gb205, 0, none⟩ = some (.int .u32 0) := (blk_cell BK205.out 0).trans rfl; have hcz191_1 : w186.cell? ⟨gb205, 1, none⟩ = some (.int .u32 0) := (blk_cell BK205.out 1).trans rfl; have hcz191_2 : w186.cell? ⟨gb205, 2, none⟩ = some (.int .u32 0) := (blk_cell BK205.out 2).trans rfl; have hcz191_3 : w186.cell? ⟨gb205, 3, none⟩ = some (.int .u32 0) := (blk_cell BK205.out 3).trans rfl; have hfz191_0 := blk_frozen BK205.out 0; have hfz191_1 := blk_frozen BK205.out 1; have hfz191_2 := blk_frozen BK205.out 2; have hfz191_3 := blk_frozen BK205.out 3; have hcz192_0 : w186.cell? ⟨gb172, 0, none⟩ = some (.int .u32 a0_0) := (blk_cell BK172.out 0).trans rfl; have hcz192_1 : w186.cell? ⟨gb172, 1, none⟩ = some (.int .u32 a0_1) := (blk_cell BK172.out 1).trans rfl; have hcz192_2 : w186.cell? ⟨gb172, 2, none⟩ = some (.int .u32 a0_2) := (blk_cell BK172.out 2).trans rfl; have hcz192_3 : w186.cell? ⟨gb172, 3, none⟩ = some (.int .u32 a0_3) := (blk_cell BK172.out 3).trans rfl; have hfz192_0 := blk_frozen BK172.out 0; have hfz192_1 := blk_frozen BK172.out 1; have hfz192_2 := blk_frozen BK172.out 2; have hfz192_3 := blk_frozen BK172.out 3) | ((with_reducible refine gate_callee (f := 12) rfl ?_); refine goesL_ (some 106) rfl rfl Try.func12 (by kernel_rfl) rfl #[.agg #[.int .u32 a0_0, .int .u32 a0_1, .int .u32 a0_2, .int .u32 a0_3], .agg #[.int .u32 t201, .int .u32 t202, .int .u32 t203, .int .u32 t204]] rfl (by (try simp only [List.map_toArray, List.map_cons, List.map_nil]); first | done | rfl | (simp only [List.length_drop, List.length_take]; rfl) | (simp; done)) ?_; (with_reducible refine (rect_Within.calls a0_0 a0_1 a0_2 a0_3 t201 t202 t203 t204 true _ A136.out).mono ?_); rintro e w193 ⟨rfl, hb⟩; refine ⟨_, rfl, ?_⟩; have n0_ := Aside0.mk (blk_below (g := gb172) (o := .cells #[.int .u32 a0_0, .int .u32 a0_1, .int .u32 a0_2, .int .u32 a0_3] 24 (0, 0)) (by refine blk_far ?_ NB172_205.out _; refine blk_far ?_ NB172_205.out _; refine blk_far ?_ NB172_205.out _; refine blk_far ?_ NB172_205.out _; exact BK172.out) hb); have n1_ := Aside0.mk (blk_below (g := gb173) (o := .cells #[.int .u32 a1_0, .int .u32 a1_1, .int .u32 a1_2, .int .u32 a1_3] 24 (0, 0)) (by refine blk_far ?_ NB173_205.out _; refine blk_far ?_ NB173_205.out _; refine blk_far ?_ NB173_205.out _; refine blk_far ?_ NB173_205.out _; exact BK173.out) hb); have n2_ := Aside0.mk (blk_below (g := gb174) (o := .cells #[.int .u32 a2_0, .int .u32 a2_1, .int .u32 a2_2, .int .u32 a2_3] 24 (0, 0)) (by refine blk_far ?_ NB174_205.out _; refine blk_far ?_ NB174_205.out _; refine blk_far ?_ NB174_205.out _; refine blk_far ?_ NB174_205.out _; exact BK174.out) hb); have n3_ := Aside0.mk (blk_below (g := gb192) (o := .cells #[.int .u32 t188, .int .u32 t189, .int .u32 t190, .int .u32 t191] 24 (0, 0)) (by refine blk_far ?_ NB192_205.out _; refine blk_far ?_ NB192_205.out _; refine blk_far ?_ NB192_205.out _; refine blk_far ?_ NB192_205.out _; exact BK192.out) hb); have n4_ := Aside0.mk (blk_below (g := gb205) (o := .cells #[.int .u32 t201, .int .u32 t202, .int .u32 t203, .int .u32 t204] 24 (0, 0)) (by refine blk_put (cs := #[.int .u32 t201, .int .u32 t202, .int .u32 t203, .int .u32 0]) ?_ 3 _ (by first | rfl | simp); refine blk_put (cs := #[.int .u32 t201, .int .u32 t202, .int .u32 0, .int .u32 0]) ?_ 2 _ (by first | rfl | simp); refine blk_put (cs := #[.int .u32 t201, .int .u32 0, .int .u32 0, .int .u32 0]) ?_ 1 _ (by first | rfl | simp); refine blk_put (cs := #[.int .u32 0, .int .u32 0, .int .u32 0, .int .u32 0]) ?_ 0 _ (by first | rfl | simp); exact BK205.out) hb); have n5_ := Aside0.mk (below_step (by repeat (first | (with_reducible first | exact HB.out | apply below_alloc | apply pw_below_drewN | apply below_drew1 | refine below_set ?_ GE172.out | refine below_set ?_ GE173.out | refine below_set ?_ GE174.out | refine below_set ?_ GE192.out | refine below_set ?_ GE205.out) | exact HB.out)) hb); clear BK172; clear BK173; clear BK174; clear BK192; clear BK205; clear HB; have BK172 := n0_; have BK173 := n1_; have BK174 := n2_; have BK192 := n3_; have BK205 := n4_; have HB := n5_; clear n0_ n1_ n2_ n3_ n4_ n5_; (try clear hb); (try clear hb2); (try clear hk); (try clear hi); have hcz194_0 : w193.cell? ⟨gb173, 0, none⟩ = some (.int .u32 a1_0) := (blk_cell BK173.out 0).trans rfl; have hcz194_1 : w193.cell? ⟨gb173, 1, none⟩ = some (.int .u32 a1_1) := (blk_cell BK173.out 1).trans rfl; have hcz194_2 : w193.cell? ⟨gb173, 2, none⟩ = some (.int .u32 a1_2) := (blk_cell BK173.out 2).trans rfl; have hcz194_3 : w193.cell? ⟨gb173, 3, none⟩ = some (.int .u32 a1_3) := (blk_cell BK173.out 3).trans rfl; have hfz194_0 := blk_frozen BK173.out 0; have hfz194_1 := blk_frozen BK173.out 1; have hfz194_2 := blk_frozen BK173.out 2; have hfz194_3 := blk_frozen BK173.out 3; have hcz195_0 : w193.cell? ⟨gb205, 0, none⟩ = some (.int .u32 t201) := (blk_cell BK205.out 0).trans rfl; have hcz195_1 : w193.cell? ⟨gb205, 1, none⟩ = some (.int .u32 t202) := (blk_cell BK205.out 1).trans rfl; have hcz195_2 : w193.cell? ⟨gb205, 2, none⟩ = some (.int .u32 t203) := (blk_cell BK205.out 2).trans rfl; have hcz195_3 : w193.cell? ⟨gb205, 3, none⟩ = some (.int .u32 t204) := (blk_cell BK205.out 3).trans rfl; have hfz195_0 := blk_frozen BK205.out 0; have hfz195_1 := blk_frozen BK205.out 1; have hfz195_2 := blk_frozen BK205.out 2; have hfz195_3 := blk_frozen BK205.out 3) | (go_at_call 12; (with_reducible refine (rect_Within.calls a1_0 a1_1 a1_2 a1_3 t201 t202 t203 t204 true _ A138.out).mono ?_); rintro e w196 ⟨rfl, hb⟩; replace BK172 := Aside0.mk (blk_below BK172.out hb); replace BK173 := Aside0.mk (blk_below BK173.out hb); replace BK174 := Aside0.mk (blk_below BK174.out hb); replace BK192 := Aside0.mk (blk_below BK192.out hb); replace BK205 := Aside0.mk (blk_below BK205.out hb); replace HB := Aside0.mk (below_step (by repeat (first | (with_reducible first | exact HB.out | apply below_alloc | apply pw_below_drewN | apply below_drew1 | refine below_set ?_ GE172.out | refine below_set ?_ GE173.out | refine below_set ?_ GE174.out | refine below_set ?_ GE192.out | refine below_set ?_ GE205.out) | exact HB.out)) hb); (try clear hb); (try clear hb2); (try clear hk); (try clear hi); have hcz197_0 : w196.cell? ⟨gb172, 0, none⟩ = some (.int .u32 a0_0) := (blk_cell BK172.out 0).trans rfl; have hcz197_1 : w196.cell? ⟨gb172, 1, none⟩ = some (.int .u32 a0_1) := (blk_cell BK172.out 1).trans rfl; have hcz197_2 : w196.cell? ⟨gb172, 2, none⟩ = some (.int .u32 a0_2) := (blk_cell BK172.out 2).trans rfl; have hcz197_3 : w196.cell? ⟨gb172, 3, none⟩ = some (.int .u32 a0_3) := (blk_cell BK172.out 3).trans rfl; have hfz197_0 := blk_frozen BK172.out 0; have hfz197_1 := blk_frozen BK172.out 1; have hfz197_2 := blk_frozen BK172.out 2; have hfz197_3 := blk_frozen BK172.out 3; have hnb198 := NB174_192.out; have hnc198 := NB192_174.out; have hcz199_0 : w196.cell? ⟨gb174, 0, none⟩ = some (.int .u32 a2_0) := (blk_cell BK174.out 0).trans rfl; have hcz199_1 : w196.cell? ⟨gb174, 1, none⟩ = some (.int .u32 a2_1) := (blk_cell BK174.out 1).trans rfl; have hcz199_2 : w196.cell? ⟨gb174, 2, none⟩ = some (.int .u32 a2_2) := (blk_cell BK174.out 2).trans rfl; have hcz199_3 : w196.cell? ⟨gb174, 3, none⟩ = some (.int .u32 a2_3) := (blk_cell BK174.out 3).trans rfl; have hfz199_0 := blk_frozen BK174.out 0; have hfz199_1 := blk_frozen BK174.out 1; have hfz199_2 := blk_frozen BK174.out 2; have hfz199_3 := blk_frozen BK174.out 3) | (go_at_call 12; (with_reducible refine (rect_Within.calls a0_0 a0_1 a0_2 a0_3 a2_0 a2_1 a2_2 a2_3 true _ A140.out).mono ?_); rintro e w200 ⟨rfl, hb⟩; replace BK172 := Aside0.mk (blk_below BK172.out hb); replace BK173 := Aside0.mk (blk_below BK173.out hb); replace BK174 := Aside0.mk (blk_below BK174.out hb); replace BK192 := Aside0.mk (blk_below BK192.out hb); replace BK205 := Aside0.mk (blk_below BK205.out hb); replace HB := Aside0.mk (below_step (by repeat (first | (with_reducible first | exact HB.out | apply below_alloc | apply pw_below_drewN | apply below_drew1 | refine below_set ?_ GE172.out | refine below_set ?_ GE173.out | refine below_set ?_ GE174.out | refine below_set ?_ GE192.out | refine below_set ?_ GE205.out) | exact HB.out)) hb); (try clear hb); (try clear hb2); (try clear hk); (try clear hi); have hcz201_0 : w200.cell? ⟨gb173, 0, none⟩ = some (.int .u32 a1_0) := (blk_cell BK173.out 0).trans rfl; have hcz201_1 : w200.cell? ⟨gb173, 1, none⟩ = some (.int .u32 a1_1) := (blk_cell BK173.out 1).trans rfl; have hcz201_2 : w200.cell? ⟨gb173, 2, none⟩ = some (.int .u32 a1_2) := (blk_cell BK173.out 2).trans rfl; have hcz201_3 : w200.cell? ⟨gb173, 3, none⟩ = some (.int .u32 a1_3) := (blk_cell BK173.out 3).trans rfl; have hfz201_0 := blk_frozen BK173.out 0; have hfz201_1 := blk_frozen BK173.out 1; have hfz201_2 := blk_frozen BK173.out 2; have hfz201_3 := blk_frozen BK173.out 3; have hcz202_0 : w200.cell? ⟨gb174, 0, none⟩ = some (.int .u32 a2_0) := (blk_cell BK174.out 0).trans rfl; have hcz202_1 : w200.cell? ⟨gb174, 1, none⟩ = some (.int .u32 a2_1) := (blk_cell BK174.out 1).trans rfl; have hcz202_2 : w200.cell? ⟨gb174, 2, none⟩ = some (.int .u32 a2_2) := (blk_cell BK174.out 2).trans rfl; have hcz202_3 : w200.cell? ⟨gb174, 3, none⟩ = some (.int .u32 a2_3) := (blk_cell BK174.out 3).trans rfl; have hfz202_0 := blk_frozen BK174.out 0; have hfz202_1 := blk_frozen BK174.out 1; have hfz202_2 := blk_frozen BK174.out 2; have hfz202_3 := blk_frozen BK174.out 3) | (go_at_call 12; (with_reducible refine (rect_Within.calls a1_0 a1_1 a1_2 a1_3 a2_0 a2_1 a2_2 a2_3 false _ A142.out).mono ?_); rintro e w203 ⟨rfl, hb⟩; replace BK172 := Aside0.mk (blk_below BK172.out hb); replace BK173 := Aside0.mk (blk_below BK173.out hb); replace BK174 := Aside0.mk (blk_below BK174.out hb); replace BK192 := Aside0.mk (blk_below BK192.out hb); replace BK205 := Aside0.mk (blk_below BK205.out hb); replace HB := Aside0.mk (below_step (by repeat (first | (with_reducible first | exact HB.out | apply below_alloc | apply pw_below_drewN | apply below_drew1 | refine below_set ?_ GE172.out | refine below_set ?_ GE173.out | refine below_set ?_ GE174.out | refine below_set ?_ GE192.out | refine below_set ?_ GE205.out) | exact HB.out)) hb); (try clear hb); (try clear hb2); (try clear hk); (try clear hi)) | (go_at_call 14; (with_reducible refine (counterpanelaw04_works.calls  t212 _ A177.out).mono ?_); rintro e w204 ⟨rfl, hb⟩; replace BK172 := Aside0.mk (blk_below BK172.out hb); replace BK173 := Aside0.mk (blk_below BK173.out hb); replace BK174 := Aside0.mk (blk_below BK174.out hb); replace BK192 := Aside0.mk (blk_below BK192.out hb); replace BK205 := Aside0.mk (blk_below BK205.out hb); replace HB := Aside0.mk (below_step (by repeat (first | (with_reducible first | exact HB.out | apply below_alloc | apply pw_below_drewN | apply below_drew1 | refine below_set ?_ GE172.out | refine below_set ?_ GE173.out | refine below_set ?_ GE174.out | refine below_set ?_ GE192.out | refine below_set ?_ GE205.out) | exact HB.out)) hb); (try clear hb); (try clear hb2); (try clear hk); (try clear hi)))
              go_ret
              exact ⟨by first | rfl | (simp [errW_none, errW_some] <;> rfl) | (simp [*, errW_none, errW_some] <;> rfl), by repeat (first | (with_reducible first | exact HB.out | apply below_alloc | apply pw_below_drewN | apply below_drew1 | refine below_set ?_ GE172.out | refine below_set ?_ GE173.out | refine below_set ?_ GE174.out | refine below_set ?_ GE192.out | refine below_set ?_ GE205.out) | exact HB.out)⟩
            ·replace c141 := Bool.eq_false_iff.mpr c141
             subst c141
             have H1 : ((counterpanelaw04_works.f).bind fun t213 => (some t213)) = some r := by rw [if_neg (show ¬ (false = true) by decide)] at H; exact H
             clear H
             have H := H1
             clear H1
             replace H := Option.bind_eq_some_iff.mp H
             obtain ⟨t213, A2050, H⟩ := H
             replace H : (some t213) = some r := H
             have A205 := Aside0.mk A2050
             clear A2050
             obtain rfl := Option.some.inj H
             have hnb206 := NB172_173.out
             have hnc206 := NB173_172.out
             have hnb207 := NB172_174.out
             have hnc207 := NB174_172.out
             have hnb208 := NB172_192.out
             have hnc208 := NB192_172.out
             have hcz209_0 : wc.cell? ⟨gb172, 0, none⟩ = some (.int .u32 a0_0) := (blk_cell BK172.out 0).trans rfl
             have hcz209_1 : wc.cell? ⟨gb172, 1, none⟩ = some (.int .u32 a0_1) := (blk_cell BK172.out 1).trans rfl
             have hcz209_2 : wc.cell? ⟨gb172, 2, none⟩ = some (.int .u32 a0_2) := (blk_cell BK172.out 2).trans rfl
             have hcz209_3 : wc.cell? ⟨gb172, 3, none⟩ = some (.int .u32 a0_3) := (blk_cell BK172.out 3).trans rfl
             have hfz209_0 := blk_frozen BK172.out 0
             have hfz209_1 := blk_frozen BK172.out 1
             have hfz209_2 := blk_frozen BK172.out 2
             have hfz209_3 := blk_frozen BK172.out 3
             have hnb210 := NB173_174.out
             have hnc210 := NB174_173.out
             have hnb211 := NB173_192.out
             have hnc211 := NB192_173.out
             have hcz212_0 : wc.cell? ⟨gb173, 0, none⟩ = some (.int .u32 a1_0) := (blk_cell BK173.out 0).trans rfl
             have hcz212_1 : wc.cell? ⟨gb173, 1, none⟩ = some (.int .u32 a1_1) := (blk_cell BK173.out 1).trans rfl
             have hcz212_2 : wc.cell? ⟨gb173, 2, none⟩ = some (.int .u32 a1_2) := (blk_cell BK173.out 2).trans rfl
             have hcz212_3 : wc.cell? ⟨gb173, 3, none⟩ = some (.int .u32 a1_3) := (blk_cell BK173.out 3).trans rfl
             have hfz212_0 := blk_frozen BK173.out 0
             have hfz212_1 := blk_frozen BK173.out 1
             have hfz212_2 := blk_frozen BK173.out 2
             have hfz212_3 := blk_frozen BK173.out 3
             go_wp2_with (first | ((with_reducible refine gate_callee (f := 9) rfl ?_); refine goesL_ (some 103) rfl rfl Try.func9 (by kernel_rfl) rfl #[.agg #[.int .u32 a0_0, .int .u32 a0_1, .int .u32 a0_2, .int .u32 a0_3], .agg #[.int .u32 a1_0, .int .u32 a1_1, .int .u32 a1_2, .int .u32 a1_3]] rfl (by (try simp only [List.map_toArray, List.map_cons, List.map_nil]); first | done | rfl | (simp only [List.length_drop, List.length_take]; rfl) | (simp; done)) ?_; (with_reducible refine (rect_Hull.calls a0_0 a0_1 a0_2 a0_3 a1_0 a1_1 a1_2 a1_3 t201 t202 t203 t204 _ A135.out).mono ?_); rintro e w213 ⟨rfl, hb⟩; refine ⟨_, rfl, ?_⟩; replace BK172 := Aside0.mk (blk_below BK172.out hb); replace BK173 := Aside0.mk (blk_below BK173.out hb); replace BK174 := Aside0.mk (blk_below BK174.out hb); replace BK192 := Aside0.mk (blk_below BK192.out hb); replace HB := Aside0.mk (below_step (by repeat (first | (with_reducible first | exact HB.out | apply below_alloc | apply pw_below_drewN | apply below_drew1 | refine below_set ?_ GE172.out | refine below_set ?_ GE173.out | refine below_set ?_ GE174.out | refine below_set ?_ GE192.out) | exact HB.out)) hb); (try clear hb); (try clear hb2); (try clear hk); (try clear hi)) | ((with_reducible refine gate_dst (N := 9) rfl ?_); refine box_event ?hg (N := 9) ?hd (cs := #[.int .u32 0, .int .u32 0, .int .u32 0, .int .u32 0]) (t := 24) ?hr ?_; (case hd => rfl); (case hg => rfl); (case hr => first | (go_simp; done) | (go_simp; rfl)); intro gb205 hg w214 hbox hb; have n0_ := Aside0.mk (blk_below BK172.out hb); have n1_ := Aside0.mk (blk_below BK173.out hb); have n2_ := Aside0.mk (blk_below BK174.out hb); have n3_ := Aside0.mk (blk_below BK192.out hb); have n4_ := Aside0.mk (below_step (by repeat (first | (with_reducible first | exact HB.out | apply below_alloc | apply pw_below_drewN | apply below_drew1 | refine below_set ?_ GE172.out | refine below_set ?_ GE173.out | refine below_set ?_ GE174.out | refine below_set ?_ GE192.out) | exact HB.out)) hb); have n5_ := Aside0.mk (hbox); have n6_ := Aside0.mk ((by rw [hg]; exact (below_size (by repeat (first | (with_reducible first | exact HB.out | apply below_alloc | apply pw_below_drewN | apply below_drew1 | refine below_set ?_ GE172.out | refine below_set ?_ GE173.out | refine below_set ?_ GE174.out | refine below_set ?_ GE192.out) | exact HB.out))) : w.heap.size ≤ gb205)); have n7_ := Aside0.mk ((by rw [hg]; exact (below_size (by repeat (first | (with_reducible first | exact HB.out | apply below_alloc | apply pw_below_drewN | apply below_drew1 | refine below_set ?_ GE172.out | refine below_set ?_ GE173.out | refine below_set ?_ GE174.out | refine below_set ?_ GE192.out) | exact HB.out))) : w.heap.size ≤ gb205)); have n8_ := Aside0.mk ((by rw [hg]; exact Nat.ne_of_lt (blk_lt BK172.out) : gb172 ≠ gb205)); have n9_ := Aside0.mk ((by rw [hg]; exact Nat.ne_of_gt (blk_lt BK172.out) : gb205 ≠ gb172)); have n10_ := Aside0.mk ((by rw [hg]; exact Nat.ne_of_lt (blk_lt BK173.out) : gb173 ≠ gb205)); have n11_ := Aside0.mk ((by rw [hg]; exact Nat.ne_of_gt (blk_lt BK173.out) : gb205 ≠ gb173)); have n12_ := Aside0.mk ((by rw [hg]; exact Nat.ne_of_lt (blk_lt BK174.out) : gb174 ≠ gb205)); have n13_ := Aside0.mk ((by rw [hg]; exact Nat.ne_of_gt (blk_lt BK174.out) : gb205 ≠ gb174)); have n14_ := Aside0.mk ((by rw [hg]; exact Nat.ne_of_lt (blk_lt BK192.out) : gb192 ≠ gb205)); have n15_ := Aside0.mk ((by rw [hg]; exact Nat.ne_of_gt (blk_lt BK192.out) : gb205 ≠ gb192)); clear BK172; clear BK173; clear BK174; clear BK192; clear HB; have BK172 := n0_; have BK173 := n1_; have BK174 := n2_; have BK192 := n3_; have HB := n4_; have BK205 := n5_; have GW205 := n6_; have GE205 := n7_; have NB172_205 := n8_; have NB205_172 := n9_; have NB173_205 := n10_; have NB205_173 := n11_; have NB174_205 := n12_; have NB205_174 := n13_; have NB192_205 := n14_; have NB205_192 := n15_; clear n0_ n1_ n2_ n3_ n4_ n5_ n6_ n7_ n8_ n9_ n10_ n11_ n12_ n13_ n14_ n15_; clear hb hbox hg; have hnb215 := NB205_172.out; have hnc215 := NB172_205.out; have hnb216 := NB205_173.out; have hnc216 := NB173_205.out; have hnb217 := NB205_174.out; have hnc217 := NB174_205.out; have hnb218 := NB205_192.out; have hnc218 := NB192_205.out; have hcz219_0 : w214.cell? ⟨gb205, 0, none⟩ = some (.int .u32 0) := (blk_cell BK205.out 0).trans rfl; have hcz219_1 : w214.cell? ⟨gb205, 1, none⟩ = some (.int .u32 0) := (blk_cell BK205.out 1).trans rfl; have hcz219_2 : w214.cell? ⟨gb205, 2, none⟩ = some (.int .u32 0) := (blk_cell BK205.out 2).trans rfl; have hcz219_3 : w214.cell? ⟨gb205, 3, none⟩ = some (.int .u32 0) := (blk_cell BK205.out 3).trans rfl; have hfz219_0 := blk_frozen BK205.out 0; have hfz219_1 := blk_frozen BK205.out 1; have hfz219_2 := blk_frozen BK205.out 2; have hfz219_3 := blk_frozen BK205.out 3; have hcz220_0 : w214.cell? ⟨gb172, 0, none⟩ = some (.int .u32 a0_0) := (blk_cell BK172.out 0).trans rfl; have hcz220_1 : w214.cell? ⟨gb172, 1, none⟩ = some (.int .u32 a0_1) := (blk_cell BK172.out 1).trans rfl; have hcz220_2 : w214.cell? ⟨gb172, 2, none⟩ = some (.int .u32 a0_2) := (blk_cell BK172.out 2).trans rfl; have hcz220_3 : w214.cell? ⟨gb172, 3, none⟩ = some (.int .u32 a0_3) := (blk_cell BK172.out 3).trans rfl; have hfz220_0 := blk_frozen BK172.out 0; have hfz220_1 := blk_frozen BK172.out 1; have hfz220_2 := blk_frozen BK172.out 2; have hfz220_3 := blk_frozen BK172.out 3) | ((with_reducible refine gate_callee (f := 12) rfl ?_); refine goesL_ (some 106) rfl rfl Try.func12 (by kernel_rfl) rfl #[.agg #[.int .u32 a0_0, .int .u32 a0_1, .int .u32 a0_2, .int .u32 a0_3], .agg #[.int .u32 t201, .int .u32 t202, .int .u32 t203, .int .u32 t204]] rfl (by (try simp only [List.map_toArray, List.map_cons, List.map_nil]); first | done | rfl | (simp only [List.length_drop, List.length_take]; rfl) | (simp; done)) ?_; (with_reducible refine (rect_Within.calls a0_0 a0_1 a0_2 a0_3 t201 t202 t203 t204 true _ A136.out).mono ?_); rintro e w221 ⟨rfl, hb⟩; refine ⟨_, rfl, ?_⟩; have n0_ := Aside0.mk (blk_below (g := gb172) (o := .cells #[.int .u32 a0_0, .int .u32 a0_1, .int .u32 a0_2, .int .u32 a0_3] 24 (0, 0)) (by refine blk_far ?_ NB172_205.out _; refine blk_far ?_ NB172_205.out _; refine blk_far ?_ NB172_205.out _; refine blk_far ?_ NB172_205.out _; exact BK172.out) hb); have n1_ := Aside0.mk (blk_below (g := gb173) (o := .cells #[.int .u32 a1_0, .int .u32 a1_1, .int .u32 a1_2, .int .u32 a1_3] 24 (0, 0)) (by refine blk_far ?_ NB173_205.out _; refine blk_far ?_ NB173_205.out _; refine blk_far ?_ NB173_205.out _; refine blk_far ?_ NB173_205.out _; exact BK173.out) hb); have n2_ := Aside0.mk (blk_below (g := gb174) (o := .cells #[.int .u32 a2_0, .int .u32 a2_1, .int .u32 a2_2, .int .u32 a2_3] 24 (0, 0)) (by refine blk_far ?_ NB174_205.out _; refine blk_far ?_ NB174_205.out _; refine blk_far ?_ NB174_205.out _; refine blk_far ?_ NB174_205.out _; exact BK174.out) hb); have n3_ := Aside0.mk (blk_below (g := gb192) (o := .cells #[.int .u32 t188, .int .u32 t189, .int .u32 t190, .int .u32 t191] 24 (0, 0)) (by refine blk_far ?_ NB192_205.out _; refine blk_far ?_ NB192_205.out _; refine blk_far ?_ NB192_205.out _; refine blk_far ?_ NB192_205.out _; exact BK192.out) hb); have n4_ := Aside0.mk (blk_below (g := gb205) (o := .cells #[.int .u32 t201, .int .u32 t202, .int .u32 t203, .int .u32 t204] 24 (0, 0)) (by refine blk_put (cs := #[.int .u32 t201, .int .u32 t202, .int .u32 t203, .int .u32 0]) ?_ 3 _ (by first | rfl | simp); refine blk_put (cs := #[.int .u32 t201, .int .u32 t202, .int .u32 0, .int .u32 0]) ?_ 2 _ (by first | rfl | simp); refine blk_put (cs := #[.int .u32 t201, .int .u32 0, .int .u32 0, .int .u32 0]) ?_ 1 _ (by first | rfl | simp); refine blk_put (cs := #[.int .u32 0, .int .u32 0, .int .u32 0, .int .u32 0]) ?_ 0 _ (by first | rfl | simp); exact BK205.out) hb); have n5_ := Aside0.mk (below_step (by repeat (first | (with_reducible first | exact HB.out | apply below_alloc | apply pw_below_drewN | apply below_drew1 | refine below_set ?_ GE172.out | refine below_set ?_ GE173.out | refine below_set ?_ GE174.out | refine below_set ?_ GE192.out | refine below_set ?_ GE205.out) | exact HB.out)) hb); clear BK172; clear BK173; clear BK174; clear BK192; clear BK205; clear HB; have BK172 := n0_; have BK173 := n1_; have BK174 := n2_; have BK192 := n3_; have BK205 := n4_; have HB := n5_; clear n0_ n1_ n2_ n3_ n4_ n5_; (try clear hb); (try clear hb2); (try clear hk); (try clear hi); have hcz222_0 : w221.cell? ⟨gb173, 0, none⟩ = some (.int .u32 a1_0) := (blk_cell BK173.out 0).trans rfl; have hcz222_1 : w221.cell? ⟨gb173, 1, none⟩ = some (.int .u32 a1_1) := (blk_cell BK173.out 1).trans rfl; have hcz222_2 : w221.cell? ⟨gb173, 2, none⟩ = some (.int .u32 a1_2) := (blk_cell BK173.out 2).trans rfl; have hcz222_3 : w221.cell? ⟨gb173, 3, none⟩ = some (.int .u32 a1_3) := (blk_cell BK173.out 3).trans rfl; have hfz222_0 := blk_frozen BK173.out 0; have hfz222_1 := blk_frozen BK173.out 1; have hfz222_2 := blk_frozen BK173.out 2; have hfz222_3 := blk_frozen BK173.out 3; have hcz223_0 : w221.cell? ⟨gb205, 0, none⟩ = some (.int .u32 t201) := (blk_cell BK205.out 0).trans rfl; have hcz223_1 : w221.cell? ⟨gb205, 1, none⟩ = some (.int .u32 t202) := (blk_cell BK205.out 1).trans rfl; have hcz223_2 : w221.cell? ⟨gb205, 2, none⟩ = some (.int .u32 t203) := (blk_cell BK205.out 2).trans rfl; have hcz223_3 : w221.cell? ⟨gb205, 3, none⟩ = some (.int .u32 t204) := (blk_cell BK205.out 3).trans rfl; have hfz223_0 := blk_frozen BK205.out 0; have hfz223_1 := blk_frozen BK205.out 1; have hfz223_2 := blk_frozen BK205.out 2; have hfz223_3 := blk_frozen BK205.out 3) | (go_at_call 12; (with_reducible refine (rect_Within.calls a1_0 a1_1 a1_2 a1_3 t201 t202 t203 t204 true _ A138.out).mono ?_); rintro e w224 ⟨rfl, hb⟩; replace BK172 := Aside0.mk (blk_below BK172.out hb); replace BK173 := Aside0.mk (blk_below BK173.out hb); replace BK174 := Aside0.mk (blk_below BK174.out hb); replace BK192 := Aside0.mk (blk_below BK192.out hb); replace BK205 := Aside0.mk (blk_below BK205.out hb); replace HB := Aside0.mk (below_step (by repeat (first | (with_reducible first | exact HB.out | apply below_alloc | apply pw_below_drewN | apply below_drew1 | refine below_set ?_ GE172.out | refine below_set ?_ GE173.out | refine below_set ?_ GE174.out | refine below_set ?_ GE192.out | refine below_set ?_ GE205.out) | exact HB.out)) hb); (try clear hb); (try clear hb2); (try clear hk); (try clear hi); have hcz225_0 : w224.cell? ⟨gb172, 0, none⟩ = some (.int .u32 a0_0) := (blk_cell BK172.out 0).trans rfl; have hcz225_1 : w224.cell? ⟨gb172, 1, none⟩ = some (.int .u32 a0_1) := (blk_cell BK172.out 1).trans rfl; have hcz225_2 : w224.cell? ⟨gb172, 2, none⟩ = some (.int .u32 a0_2) := (blk_cell BK172.out 2).trans rfl; have hcz225_3 : w224.cell? ⟨gb172, 3, none⟩ = some (.int .u32 a0_3) := (blk_cell BK172.out 3).trans rfl; have hfz225_0 := blk_frozen BK172.out 0; have hfz225_1 := blk_frozen BK172.out 1; have hfz225_2 := blk_frozen BK172.out 2; have hfz225_3 := blk_frozen BK172.out 3; have hnb226 := NB174_192.out; have hnc226 := NB192_174.out; have hcz227_0 : w224.cell? ⟨gb174, 0, none⟩ = some (.int .u32 a2_0) := (blk_cell BK174.out 0).trans rfl; have hcz227_1 : w224.cell? ⟨gb174, 1, none⟩ = some (.int .u32 a2_1) := (blk_cell BK174.out 1).trans rfl; have hcz227_2 : w224.cell? ⟨gb174, 2, none⟩ = some (.int .u32 a2_2) := (blk_cell BK174.out 2).trans rfl; have hcz227_3 : w224.cell? ⟨gb174, 3, none⟩ = some (.int .u32 a2_3) := (blk_cell BK174.out 3).trans rfl; have hfz227_0 := blk_frozen BK174.out 0; have hfz227_1 := blk_frozen BK174.out 1; have hfz227_2 := blk_frozen BK174.out 2; have hfz227_3 := blk_frozen BK174.out 3) | (go_at_call 12; (with_reducible refine (rect_Within.calls a0_0 a0_1 a0_2 a0_3 a2_0 a2_1 a2_2 a2_3 false _ A140.out).mono ?_); rintro e w228 ⟨rfl, hb⟩; replace BK172 := Aside0.mk (blk_below BK172.out hb); replace BK173 := Aside0.mk (blk_below BK173.out hb); replace BK174 := Aside0.mk (blk_below BK174.out hb); replace BK192 := Aside0.mk (blk_below BK192.out hb); replace BK205 := Aside0.mk (blk_below BK205.out hb); replace HB := Aside0.mk (below_step (by repeat (first | (with_reducible first | exact HB.out | apply below_alloc | apply pw_below_drewN | apply below_drew1 | refine below_set ?_ GE172.out | refine below_set ?_ GE173.out | refine below_set ?_ GE174.out | refine below_set ?_ GE192.out | refine below_set ?_ GE205.out) | exact HB.out)) hb); (try clear hb); (try clear hb2); (try clear hk); (try clear hi)) | (go_at_call 14; (with_reducible refine (counterpanelaw04_works.calls  t213 _ A205.out).mono ?_); rintro e w229 ⟨rfl, hb⟩; replace BK172 := Aside0.mk (blk_below BK172.out hb); replace BK173 := Aside0.mk (blk_below BK173.out hb); replace BK174 := Aside0.mk (blk_below BK174.out hb); replace BK192 := Aside0.mk (blk_below BK192.out hb); replace BK205 := Aside0.mk (blk_below BK205.out hb); replace HB := Aside0.mk (below_step (by repeat (first | (with_reducible first | exact HB.out | apply below_alloc | apply pw_below_drewN | apply below_drew1 | refine below_set ?_ GE172.out | refine below_set ?_ GE173.out | refine below_set ?_ GE174.out | refine below_set ?_ GE192.out | refine below_set ?_ GE205.out) | exact HB.out)) hb); (try clear hb); (try clear hb2); (try clear hk); (try clear hi)))
             go_ret
             exact ⟨by first | rfl | (simp [errW_none, errW_some] <;> rfl) | (simp [*, errW_none, errW_some] <;> rfl), by repeat (first | (with_reducible first | exact HB.out | apply below_alloc | apply pw_below_drewN | apply below_drew1 | refine below_set ?_ GE172.out | refine below_set ?_ GE173.out | refine below_set ?_ GE174.out | refine below_set ?_ GE192.out | refine below_set ?_ GE205.out) | exact HB.out)⟩
           ·replace c139 := Bool.eq_false_iff.mpr c139
            subst c139
            have H1 : (none) = some r := by rw [if_neg (show ¬ (false = true) by decide)] at H; exact H
            clear H
            have H := H1
            clear H1
            exact absurd H (by simp)
          ·replace c137 := Bool.eq_false_iff.mpr c137
           subst c137
           have H1 : (none) = some r := by rw [if_neg (show ¬ (false = true) by decide)] at H; exact H
           clear H
           have H := H1
           clear H1
           exact absurd H (by simp)

/-- THE ONE PURE STATEMENT of counterpanelaw04_RectWhole: yours. -/
def counterpanelaw04_RectWhole.Pure : Prop := ∀ (a0_0 : Int) (a0_1 : Int) (a0_2 : Int) (a0_3 : Int) (a1_0 : Int) (a1_1 : Int) (a1_2 : Int) (a1_3 : Int) (a2_0 : Int) (a2_1 : Int) (a2_2 : Int) (a2_3 : Int), (Lit.int .u32 a0_0).wf = true → (Lit.int .u32 a0_1).wf = true → (Lit.int .u32 a0_2).wf = true → (Lit.int .u32 a0_3).wf = true → (Lit.int .u32 a1_0).wf = true → (Lit.int .u32 a1_1).wf = true → (Lit.int .u32 a1_2).wf = true → (Lit.int .u32 a1_3).wf = true → (Lit.int .u32 a2_0).wf = true → (Lit.int .u32 a2_1).wf = true → (Lit.int .u32 a2_2).wf = true → (Lit.int .u32 a2_3).wf = true → ∃ k, counterpanelaw04_RectWhole.f k a0_0 a0_1 a0_2 a0_3 a1_0 a1_1 a1_2 a1_3 a2_0 a2_1 a2_2 a2_3 = some true
theorem counterpanelaw04_RectWhole.walk (P : counterpanelaw04_RectWhole.Pure) (a0_0 : Int) (a0_1 : Int) (a0_2 : Int) (a0_3 : Int) (a1_0 : Int) (a1_1 : Int) (a1_2 : Int) (a1_3 : Int) (a2_0 : Int) (a2_1 : Int) (a2_2 : Int) (a2_3 : Int) (w : World) (w0_0 : (Lit.int .u32 a0_0).wf = true) (w0_1 : (Lit.int .u32 a0_1).wf = true) (w0_2 : (Lit.int .u32 a0_2).wf = true) (w0_3 : (Lit.int .u32 a0_3).wf = true) (w1_0 : (Lit.int .u32 a1_0).wf = true) (w1_1 : (Lit.int .u32 a1_1).wf = true) (w1_2 : (Lit.int .u32 a1_2).wf = true) (w1_3 : (Lit.int .u32 a1_3).wf = true) (w2_0 : (Lit.int .u32 a2_0).wf = true) (w2_1 : (Lit.int .u32 a2_1).wf = true) (w2_2 : (Lit.int .u32 a2_2).wf = true) (w2_3 : (Lit.int .u32 a2_3).wf = true) :
  Calls Try.prog 4 #[.agg #[.int .u32 a0_0, .int .u32 a0_1, .int .u32 a0_2, .int .u32 a0_3], .agg #[.int .u32 a1_0, .int .u32 a1_1, .int .u32 a1_2, .int .u32 a1_3], .agg #[.int .u32 a2_0, .int .u32 a2_1, .int .u32 a2_2, .int .u32 a2_3]] w fun e w' => e = .returned (.bool true) ∧ Below w.heap.size w w' := by
 obtain ⟨k, h⟩ := P a0_0 a0_1 a0_2 a0_3 a1_0 a1_1 a1_2 a1_3 a2_0 a2_1 a2_2 a2_3 w0_0 w0_1 w0_2 w0_3 w1_0 w1_1 w1_2 w1_3 w2_0 w2_1 w2_2 w2_3
 refine (counterpanelaw04_RectWhole.calls k a0_0 a0_1 a0_2 a0_3 a1_0 a1_1 a1_2 a1_3 a2_0 a2_1 a2_2 a2_3 true w h).mono ?_
 rintro e w' ⟨rfl, hd⟩
 exact ⟨rfl, hd⟩

end Go.Proofs.Ytcemdkppkklfnaa.PAll
