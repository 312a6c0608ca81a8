/- The functions that the laws of this seat reach, as plain functions with proofs that the calls answer just so (written by a program of this session on the kit's print). -/
import Derived.Test.YtcemdkppkklfnaaPAllx0
import Derived.Test.YtcemdkppkklfnaaPAllx1
import Derived.Test.YtcemdkppkklfnaaPAllx3
import Derived.Test.YtcemdkppkklfnaaPAllx4
import Derived.Test.YtcemdkppkklfnaaPAllx5
import Derived.Test.YtcemdkppkklfnaaPAllx6
import Derived.Test.YtcemdkppkklfnaaPAllx7
import Derived.Test.YtcemdkppkklfnaaPAllx8
import Derived.Test.YtcemdkppkklfnaaPAllx9
import Derived.Test.YtcemdkppkklfnaaPAllx10
import Derived.Test.YtcemdkppkklfnaaPAllx11
import Derived.Test.YtcemdkppkklfnaaPAllx13
namespace Go.Proofs.Ytcemdkppkklfnaa.PAll
open Go.RowKit Go.Proofs.YtcemdkppkklfnaaW.PrintWords Go.Proofs.YtcemdkppkklfnaaW.PrintLast Go.Proofs.YtcemdkppkklfnaaW.PrintMore
attribute [local go_sem] max2_int min2_int max_two min_two max_three min_three max_four min_four   -- for this text's walks alone
set_option linter.unusedVariables false
set_option linter.unusedSimpArgs false

/-! ### counterpanelaw04_works: function 14 -/
-- GIVEN rounds=0 making=1
section
open Go.Shelf
attribute [local go_sem] Oper.semAt_some
theorem run_eqIn_func_nil (d : Nat) (w : World) (f : Fn) (a b : Array Value) : (Op.equalIn (d + 1) 38 (.func f a b) .nilFunc).run Try.prog w = .ok false w := by
  have h := Try.underlying38
  simp [Op.equalIn, run_underlying h]
theorem run_eql_func_nil (w : World) (f : Fn) (a b : Array Value) : (binOp .eql 38 (.func f a b) .nilFunc).run Try.prog w = .ok (.bool false) w := by
  have e : (Op.equal 38 (.func f a b) .nilFunc).run Try.prog w = .ok false w := run_eqIn_func_nil 9999 w f a b
  simp only [binOp]
  simp [e]
attribute [local go_sem] run_eql_func_nil
theorem own_row {β : Type} (g : Nat) (o : β → Obj) (ho : ∀ s, (o s).isCells = true) : Own (fun (s : β) W => W.heap[g]? = some (o s)) := fun s _ _ _ hs hg hr => (grownBy_keeps_cells hg hr hs (ho s)).trans hs
/-- What is asked of an exit, and that it is no panic. -/
def noPanic (Q : Exit → Act → World → Prop) : Exit → Act → World → Prop
  | .panic _, _, _ => False
  | e, a, w => Q e a w
theorem noPanic_le {Q : Exit → Act → World → Prop} {e : Exit} {a : Act} {w : World} (h : noPanic Q e a w) : Q e a w := by
  cases e <;> simp only [noPanic] at h <;> exact h
attribute [local go_sem high] eqA24
def counterpanelaw04_works.f  : Option (Bool) := (rect_Has.f 2 2 5 5 5 2).bind fun t134 => (if t134 = true then ((rect_Has.f 2 2 5 5 6 2).bind fun t135 => (if t135 = true then (none) else ((rect_Meet.f 2 2 5 5 5 0 9 3).bind fun bt136 => (if (bt136.1 == 5 && (bt136.2.1 == 2 && (bt136.2.2.1 == 5 && (bt136.2.2.2 == 3)))) = true then ((rect_Meets.f 2 2 5 5 5 0 9 3).bind fun t140 => (if t140 = true then ((rect_Within.f 2 2 5 5 5 0 9 3).bind fun t141 => (if t141 = true then (none) else ((rect_All.f).bind fun bt142 => ((rect_Within.f 2 2 5 5 bt142.1 bt142.2.1 bt142.2.2.1 bt142.2.2.2).bind fun t146 => (if t146 = true then ((rect_Tile.f 536870912 1073741824).bind fun t147 => (if t147 = 17 then ((rect_Of.f 17).bind fun bt148 => (if (bt148.1 == 536870912 && (bt148.2.1 == 1073741824 && (bt148.2.2.1 == 1073741823 && (bt148.2.2.2 == 1610612735)))) = true then ((rect_All.f).bind fun bt152 => ((rect_Count.f bt152.1 bt152.2.1 bt152.2.2.1 bt152.2.2.2).bind fun t156 => (if t156 = 64 then ((rect_Of.f 64).bind fun bt157 => ((rect_Empty.f bt157.1 bt157.2.1 bt157.2.2.1 bt157.2.2.2).bind fun t161 => (if t161 = true then ((rect_Hull.f 2 2 5 5 5 0 9 3).bind fun bt162 => (some (bt162.1 == 2 && (bt162.2.1 == 0 && (bt162.2.2.1 == 9 && (bt162.2.2.2 == 5)))))) else (none)))) else (none)))) else (none))) else (none))) else (none)))))) else (none))) else (none))))) else (none))
def counterpanelaw04_works.T9 : Bool × List (List Nat × List Nat) := (true, [([], []), ([0], [0]), ([1, 1], [1]), ([2], [2]), ([3, 2, 2], [2, 3]), ([4, 2], [2, 4]), ([2, 5], [2, 5]), ([6, 4], [6]), ([7], [7]), ([7], [7]), ([8, 9, 7, 7], [7, 8, 9]), ([7], [7]), ([10, 11, 7], [7, 10, 11]), ([7, 12], [7, 12]), ([13, 10], [13]), ([14], [14]), ([14], [14]), ([15, 16, 14, 14], [14, 15, 16]), ([14, 17], [14, 17]), ([18, 17], [18]), ([19], [19]), ([19], [19]), ([20, 21, 19, 19], [19, 20, 21]), ([22, 19], [19, 22]), ([19, 23], [19, 23]), ([24, 22], [24]), ([25], [25]), ([25, 25], [25]), ([26, 27, 27, 25], [25, 26, 27]), ([25, 28], [25, 28]), ([29, 28], [29]), ([30, 30], [30]), ([31, 30], [30, 31]), ([30, 32], [30, 32]), ([33, 31], [33]), ([34, 34], [34]), ([34], [34]), ([35, 36, 34], [34, 35, 36]), ([34, 37], [34, 37]), ([38, 35], [38]), ([39], [39]), ([40, 39], [39, 40]), ([39, 41], [39, 41]), ([42, 39], [42]), ([43, 43], [43]), ([44, 44, 43], [43, 44]), ([45, 43], [43, 45]), ([43, 46], [43, 46]), ([47, 45], [47]), ([48, 48], [48]), ([49, 49, 48], [48, 49]), ([48, 50], [48, 50]), ([51, 50], [51]), ([52], [52]), ([52], [52]), ([53, 54, 52, 52], [52, 53, 54]), ([52], [52]), ([55, 56, 52], [52, 55, 56]), ([52, 57], [52, 57]), ([58, 55, 0, 1, 2, 3, 4, 5, 6, 7, 8, 9, 10, 11, 12, 13, 14, 15, 16, 17, 18, 19, 20, 21, 22, 23, 24, 25, 26, 27, 28, 29, 30, 31, 32, 33, 34, 35, 36, 37, 38, 39, 40, 41, 42, 43, 44, 45, 46, 47, 48, 49, 50, 51, 52, 53, 54, 55, 56, 57, 58], [58])])
def counterpanelaw04_works.B9 : List Nat := [0, 1, 3, 7, 15, 31, 63, 127, 255, 255, 1023, 255, 4095, 8191, 16383, 32767, 32767, 131071, 262143, 524287, 1048575, 1048575, 4194303, 8388607, 16777215, 33554431, 67108863, 67108863, 268435455, 536870911, 1073741823, 2147483647, 4294967295, 8589934591, 17179869183, 34359738367, 34359738367, 137438953471, 274877906943, 549755813887, 1099511627775, 2199023255551, 4398046511103, 8796093022207, 17592186044415, 35184372088831, 70368744177663, 140737488355327, 281474976710655, 562949953421311, 1125899906842623, 2251799813685247, 4503599627370495, 9007199254740991, 9007199254740991, 36028797018963967, 9007199254740991, 144115188075855871, 288230376151711743, 576460752303423487]
theorem counterpanelaw04_works.tab9 : rtab .any (opsOf Try.f14 9) = counterpanelaw04_works.T9 := by kernel_rfl
theorem counterpanelaw04_works.bits9 : waitsOk counterpanelaw04_works.T9.2 counterpanelaw04_works.B9 = true := by kernel_rfl
set_option maxHeartbeats 8000000 in
set_option maxRecDepth 100000 in
theorem counterpanelaw04_works.calls  (r : Bool) (w : World) (h : counterpanelaw04_works.f  = some r) :
    Calls Try.prog 14 #[] w fun e w' => e = .returned (.bool r) ∧ Below w.heap.size w w' := by
  have hu24 := Try.underlying24
  have HB := Aside0.mk (Below.refl w.heap.size w)
  have H : ((rect_Has.f 2 2 5 5 5 2).bind fun t134 => (if t134 = true then ((rect_Has.f 2 2 5 5 6 2).bind fun t135 => (if t135 = true then (none) else ((rect_Meet.f 2 2 5 5 5 0 9 3).bind fun bt136 => (if (bt136.1 == 5 && (bt136.2.1 == 2 && (bt136.2.2.1 == 5 && (bt136.2.2.2 == 3)))) = true then ((rect_Meets.f 2 2 5 5 5 0 9 3).bind fun t140 => (if t140 = true then ((rect_Within.f 2 2 5 5 5 0 9 3).bind fun t141 => (if t141 = true then (none) else ((rect_All.f).bind fun bt142 => ((rect_Within.f 2 2 5 5 bt142.1 bt142.2.1 bt142.2.2.1 bt142.2.2.2).bind fun t146 => (if t146 = true then ((rect_Tile.f 536870912 1073741824).bind fun t147 => (if t147 = 17 then ((rect_Of.f 17).bind fun bt148 => (if (bt148.1 == 536870912 && (bt148.2.1 == 1073741824 && (bt148.2.2.1 == 1073741823 && (bt148.2.2.2 == 1610612735)))) = true then ((rect_All.f).bind fun bt152 => ((rect_Count.f bt152.1 bt152.2.1 bt152.2.2.1 bt152.2.2.2).bind fun t156 => (if t156 = 64 then ((rect_Of.f 64).bind fun bt157 => ((rect_Empty.f bt157.1 bt157.2.1 bt157.2.2.1 bt157.2.2.2).bind fun t161 => (if t161 = true then ((rect_Hull.f 2 2 5 5 5 0 9 3).bind fun bt162 => (some (bt162.1 == 2 && (bt162.2.1 == 0 && (bt162.2.2.1 == 9 && (bt162.2.2.2 == 5)))))) else (none)))) else (none)))) else (none))) else (none))) else (none)))))) else (none))) else (none))))) else (none))) = some r := h
  clear h
  replace H := Option.bind_eq_some_iff.mp H
  obtain ⟨t134, A10, H⟩ := H
  replace H : (if t134 = true then ((rect_Has.f 2 2 5 5 6 2).bind fun t135 => (if t135 = true then (none) else ((rect_Meet.f 2 2 5 5 5 0 9 3).bind fun bt136 => (if (bt136.1 == 5 && (bt136.2.1 == 2 && (bt136.2.2.1 == 5 && (bt136.2.2.2 == 3)))) = true then ((rect_Meets.f 2 2 5 5 5 0 9 3).bind fun t140 => (if t140 = true then ((rect_Within.f 2 2 5 5 5 0 9 3).bind fun t141 => (if t141 = true then (none) else ((rect_All.f).bind fun bt142 => ((rect_Within.f 2 2 5 5 bt142.1 bt142.2.1 bt142.2.2.1 bt142.2.2.2).bind fun t146 => (if t146 = true then ((rect_Tile.f 536870912 1073741824).bind fun t147 => (if t147 = 17 then ((rect_Of.f 17).bind fun bt148 => (if (bt148.1 == 536870912 && (bt148.2.1 == 1073741824 && (bt148.2.2.1 == 1073741823 && (bt148.2.2.2 == 1610612735)))) = true then ((rect_All.f).bind fun bt152 => ((rect_Count.f bt152.1 bt152.2.1 bt152.2.2.1 bt152.2.2.2).bind fun t156 => (if t156 = 64 then ((rect_Of.f 64).bind fun bt157 => ((rect_Empty.f bt157.1 bt157.2.1 bt157.2.2.1 bt157.2.2.2).bind fun t161 => (if t161 = true then ((rect_Hull.f 2 2 5 5 5 0 9 3).bind fun bt162 => (some (bt162.1 == 2 && (bt162.2.1 == 0 && (bt162.2.2.1 == 9 && (bt162.2.2.2 == 5)))))) else (none)))) else (none)))) else (none))) else (none))) else (none)))))) else (none))) else (none))))) else (none)) = some r := H
  have A1 := Aside0.mk A10
  clear A10
  by_cases c2 : t134 = true
  · subst c2
    have H1 : ((rect_Has.f 2 2 5 5 6 2).bind fun t135 => (if t135 = true then (none) else ((rect_Meet.f 2 2 5 5 5 0 9 3).bind fun bt136 => (if (bt136.1 == 5 && (bt136.2.1 == 2 && (bt136.2.2.1 == 5 && (bt136.2.2.2 == 3)))) = true then ((rect_Meets.f 2 2 5 5 5 0 9 3).bind fun t140 => (if t140 = true then ((rect_Within.f 2 2 5 5 5 0 9 3).bind fun t141 => (if t141 = true then (none) else ((rect_All.f).bind fun bt142 => ((rect_Within.f 2 2 5 5 bt142.1 bt142.2.1 bt142.2.2.1 bt142.2.2.2).bind fun t146 => (if t146 = true then ((rect_Tile.f 536870912 1073741824).bind fun t147 => (if t147 = 17 then ((rect_Of.f 17).bind fun bt148 => (if (bt148.1 == 536870912 && (bt148.2.1 == 1073741824 && (bt148.2.2.1 == 1073741823 && (bt148.2.2.2 == 1610612735)))) = true then ((rect_All.f).bind fun bt152 => ((rect_Count.f bt152.1 bt152.2.1 bt152.2.2.1 bt152.2.2.2).bind fun t156 => (if t156 = 64 then ((rect_Of.f 64).bind fun bt157 => ((rect_Empty.f bt157.1 bt157.2.1 bt157.2.2.1 bt157.2.2.2).bind fun t161 => (if t161 = true then ((rect_Hull.f 2 2 5 5 5 0 9 3).bind fun bt162 => (some (bt162.1 == 2 && (bt162.2.1 == 0 && (bt162.2.2.1 == 9 && (bt162.2.2.2 == 5)))))) else (none)))) else (none)))) else (none))) else (none))) else (none)))))) else (none))) else (none))))) = some r := by rw [if_pos rfl] at H; exact H
    clear H
    have H := H1
    clear H1
    replace H := Option.bind_eq_some_iff.mp H
    obtain ⟨t135, A30, H⟩ := H
    replace H : (if t135 = true then (none) else ((rect_Meet.f 2 2 5 5 5 0 9 3).bind fun bt136 => (if (bt136.1 == 5 && (bt136.2.1 == 2 && (bt136.2.2.1 == 5 && (bt136.2.2.2 == 3)))) = true then ((rect_Meets.f 2 2 5 5 5 0 9 3).bind fun t140 => (if t140 = true then ((rect_Within.f 2 2 5 5 5 0 9 3).bind fun t141 => (if t141 = true then (none) else ((rect_All.f).bind fun bt142 => ((rect_Within.f 2 2 5 5 bt142.1 bt142.2.1 bt142.2.2.1 bt142.2.2.2).bind fun t146 => (if t146 = true then ((rect_Tile.f 536870912 1073741824).bind fun t147 => (if t147 = 17 then ((rect_Of.f 17).bind fun bt148 => (if (bt148.1 == 536870912 && (bt148.2.1 == 1073741824 && (bt148.2.2.1 == 1073741823 && (bt148.2.2.2 == 1610612735)))) = true then ((rect_All.f).bind fun bt152 => ((rect_Count.f bt152.1 bt152.2.1 bt152.2.2.1 bt152.2.2.2).bind fun t156 => (if t156 = 64 then ((rect_Of.f 64).bind fun bt157 => ((rect_Empty.f bt157.1 bt157.2.1 bt157.2.2.1 bt157.2.2.2).bind fun t161 => (if t161 = true then ((rect_Hull.f 2 2 5 5 5 0 9 3).bind fun bt162 => (some (bt162.1 == 2 && (bt162.2.1 == 0 && (bt162.2.2.1 == 9 && (bt162.2.2.2 == 5)))))) else (none)))) else (none)))) else (none))) else (none))) else (none)))))) else (none))) else (none)))) = some r := H
    have A3 := Aside0.mk A30
    clear A30
    by_cases c4 : t135 = true
    · subst c4
      have H1 : (none) = some r := by rw [if_pos rfl] at H; exact H
      clear H
      have H := H1
      clear H1
      exact absurd H (by simp)
    · replace c4 := Bool.eq_false_iff.mpr c4
      subst c4
      have H1 : ((rect_Meet.f 2 2 5 5 5 0 9 3).bind fun bt136 => (if (bt136.1 == 5 && (bt136.2.1 == 2 && (bt136.2.2.1 == 5 && (bt136.2.2.2 == 3)))) = true then ((rect_Meets.f 2 2 5 5 5 0 9 3).bind fun t140 => (if t140 = true then ((rect_Within.f 2 2 5 5 5 0 9 3).bind fun t141 => (if t141 = true then (none) else ((rect_All.f).bind fun bt142 => ((rect_Within.f 2 2 5 5 bt142.1 bt142.2.1 bt142.2.2.1 bt142.2.2.2).bind fun t146 => (if t146 = true then ((rect_Tile.f 536870912 1073741824).bind fun t147 => (if t147 = 17 then ((rect_Of.f 17).bind fun bt148 => (if (bt148.1 == 536870912 && (bt148.2.1 == 1073741824 && (bt148.2.2.1 == 1073741823 && (bt148.2.2.2 == 1610612735)))) = true then ((rect_All.f).bind fun bt152 => ((rect_Count.f bt152.1 bt152.2.1 bt152.2.2.1 bt152.2.2.2).bind fun t156 => (if t156 = 64 then ((rect_Of.f 64).bind fun bt157 => ((rect_Empty.f bt157.1 bt157.2.1 bt157.2.2.1 bt157.2.2.2).bind fun t161 => (if t161 = true then ((rect_Hull.f 2 2 5 5 5 0 9 3).bind fun bt162 => (some (bt162.1 == 2 && (bt162.2.1 == 0 && (bt162.2.2.1 == 9 && (bt162.2.2.2 == 5)))))) else (none)))) else (none)))) else (none))) else (none))) else (none)))))) else (none))) else (none))) = some r := by rw [if_neg (show ¬ (false = true) by decide)] at H; exact H
      clear H
      have H := H1
      clear H1
      replace H := Option.bind_eq_some_iff.mp H
      obtain ⟨⟨t136, t137, t138, t139⟩, A50, H⟩ := H
      replace H : (if (t136 == 5 && (t137 == 2 && (t138 == 5 && (t139 == 3)))) = true then ((rect_Meets.f 2 2 5 5 5 0 9 3).bind fun t140 => (if t140 = true then ((rect_Within.f 2 2 5 5 5 0 9 3).bind fun t141 => (if t141 = true then (none) else ((rect_All.f).bind fun bt142 => ((rect_Within.f 2 2 5 5 bt142.1 bt142.2.1 bt142.2.2.1 bt142.2.2.2).bind fun t146 => (if t146 = true then ((rect_Tile.f 536870912 1073741824).bind fun t147 => (if t147 = 17 then ((rect_Of.f 17).bind fun bt148 => (if (bt148.1 == 536870912 && (bt148.2.1 == 1073741824 && (bt148.2.2.1 == 1073741823 && (bt148.2.2.2 == 1610612735)))) = true then ((rect_All.f).bind fun bt152 => ((rect_Count.f bt152.1 bt152.2.1 bt152.2.2.1 bt152.2.2.2).bind fun t156 => (if t156 = 64 then ((rect_Of.f 64).bind fun bt157 => ((rect_Empty.f bt157.1 bt157.2.1 bt157.2.2.1 bt157.2.2.2).bind fun t161 => (if t161 = true then ((rect_Hull.f 2 2 5 5 5 0 9 3).bind fun bt162 => (some (bt162.1 == 2 && (bt162.2.1 == 0 && (bt162.2.2.1 == 9 && (bt162.2.2.2 == 5)))))) else (none)))) else (none)))) else (none))) else (none))) else (none)))))) else (none))) else (none)) = some r := H
      have A5 := Aside0.mk A50
      clear A50
      by_cases c6 : (t136 == 5 && (t137 == 2 && (t138 == 5 && (t139 == 3)))) = true
      · rw [if_pos c6] at H
        have c6b0 : (t136 == 5 && (t137 == 2 && (t138 == 5 && (t139 == 3)))) = true := c6
        (try (have c6b1 : decide (t136 = 5 && (t137 == 2 && (t138 == 5 && (t139 == 3)))) = true := by simpa using c6))
        (try (have c6b2 : (t136 == 5 && (t137 == 2 && (t138 == 5 && (t139 == 3)))) = true := by simpa using c6))
        clear c6
        replace H := Option.bind_eq_some_iff.mp H
        obtain ⟨t140, A70, H⟩ := H
        replace H : (if t140 = true then ((rect_Within.f 2 2 5 5 5 0 9 3).bind fun t141 => (if t141 = true then (none) else ((rect_All.f).bind fun bt142 => ((rect_Within.f 2 2 5 5 bt142.1 bt142.2.1 bt142.2.2.1 bt142.2.2.2).bind fun t146 => (if t146 = true then ((rect_Tile.f 536870912 1073741824).bind fun t147 => (if t147 = 17 then ((rect_Of.f 17).bind fun bt148 => (if (bt148.1 == 536870912 && (bt148.2.1 == 1073741824 && (bt148.2.2.1 == 1073741823 && (bt148.2.2.2 == 1610612735)))) = true then ((rect_All.f).bind fun bt152 => ((rect_Count.f bt152.1 bt152.2.1 bt152.2.2.1 bt152.2.2.2).bind fun t156 => (if t156 = 64 then ((rect_Of.f 64).bind fun bt157 => ((rect_Empty.f bt157.1 bt157.2.1 bt157.2.2.1 bt157.2.2.2).bind fun t161 => (if t161 = true then ((rect_Hull.f 2 2 5 5 5 0 9 3).bind fun bt162 => (some (bt162.1 == 2 && (bt162.2.1 == 0 && (bt162.2.2.1 == 9 && (bt162.2.2.2 == 5)))))) else (none)))) else (none)))) else (none))) else (none))) else (none)))))) else (none)) = some r := H
        have A7 := Aside0.mk A70
        clear A70
        by_cases c8 : t140 = true
        · subst c8
          have H1 : ((rect_Within.f 2 2 5 5 5 0 9 3).bind fun t141 => (if t141 = true then (none) else ((rect_All.f).bind fun bt142 => ((rect_Within.f 2 2 5 5 bt142.1 bt142.2.1 bt142.2.2.1 bt142.2.2.2).bind fun t146 => (if t146 = true then ((rect_Tile.f 536870912 1073741824).bind fun t147 => (if t147 = 17 then ((rect_Of.f 17).bind fun bt148 => (if (bt148.1 == 536870912 && (bt148.2.1 == 1073741824 && (bt148.2.2.1 == 1073741823 && (bt148.2.2.2 == 1610612735)))) = true then ((rect_All.f).bind fun bt152 => ((rect_Count.f bt152.1 bt152.2.1 bt152.2.2.1 bt152.2.2.2).bind fun t156 => (if t156 = 64 then ((rect_Of.f 64).bind fun bt157 => ((rect_Empty.f bt157.1 bt157.2.1 bt157.2.2.1 bt157.2.2.2).bind fun t161 => (if t161 = true then ((rect_Hull.f 2 2 5 5 5 0 9 3).bind fun bt162 => (some (bt162.1 == 2 && (bt162.2.1 == 0 && (bt162.2.2.1 == 9 && (bt162.2.2.2 == 5)))))) else (none)))) else (none)))) else (none))) else (none))) else (none)))))) = some r := by rw [if_pos rfl] at H; exact H
          clear H
          have H := H1
          clear H1
          replace H := Option.bind_eq_some_iff.mp H
          obtain ⟨t141, A90, H⟩ := H
          replace H : (if t141 = true then (none) else ((rect_All.f).bind fun bt142 => ((rect_Within.f 2 2 5 5 bt142.1 bt142.2.1 bt142.2.2.1 bt142.2.2.2).bind fun t146 => (if t146 = true then ((rect_Tile.f 536870912 1073741824).bind fun t147 => (if t147 = 17 then ((rect_Of.f 17).bind fun bt148 => (if (bt148.1 == 536870912 && (bt148.2.1 == 1073741824 && (bt148.2.2.1 == 1073741823 && (bt148.2.2.2 == 1610612735)))) = true then ((rect_All.f).bind fun bt152 => ((rect_Count.f bt152.1 bt152.2.1 bt152.2.2.1 bt152.2.2.2).bind fun t156 => (if t156 = 64 then ((rect_Of.f 64).bind fun bt157 => ((rect_Empty.f bt157.1 bt157.2.1 bt157.2.2.1 bt157.2.2.2).bind fun t161 => (if t161 = true then ((rect_Hull.f 2 2 5 5 5 0 9 3).bind fun bt162 => (some (bt162.1 == 2 && (bt162.2.1 == 0 && (bt162.2.2.1 == 9 && (bt162.2.2.2 == 5)))))) else (none)))) else (none)))) else (none))) else (none))) else (none))))) = some r := H
          have A9 := Aside0.mk A90
          clear A90
          by_cases c10 : t141 = true
          · subst c10
            have H1 : (none) = some r := by rw [if_pos rfl] at H; exact H
            clear H
            have H := H1
            clear H1
            exact absurd H (by simp)
          · replace c10 := Bool.eq_false_iff.mpr c10
            subst c10
            have H1 : ((rect_All.f).bind fun bt142 => ((rect_Within.f 2 2 5 5 bt142.1 bt142.2.1 bt142.2.2.1 bt142.2.2.2).bind fun t146 => (if t146 = true then ((rect_Tile.f 536870912 1073741824).bind fun t147 => (if t147 = 17 then ((rect_Of.f 17).bind fun bt148 => (if (bt148.1 == 536870912 && (bt148.2.1 == 1073741824 && (bt148.2.2.1 == 1073741823 && (bt148.2.2.2 == 1610612735)))) = true then ((rect_All.f).bind fun bt152 => ((rect_Count.f bt152.1 bt152.2.1 bt152.2.2.1 bt152.2.2.2).bind fun t156 => (if t156 = 64 then ((rect_Of.f 64).bind fun bt157 => ((rect_Empty.f bt157.1 bt157.2.1 bt157.2.2.1 bt157.2.2.2).bind fun t161 => (if t161 = true then ((rect_Hull.f 2 2 5 5 5 0 9 3).bind fun bt162 => (some (bt162.1 == 2 && (bt162.2.1 == 0 && (bt162.2.2.1 == 9 && (bt162.2.2.2 == 5)))))) else (none)))) else (none)))) else (none))) else (none))) else (none)))) = some r := by rw [if_neg (show ¬ (false = true) by decide)] at H; exact H
            clear H
            have H := H1
            clear H1
            replace H := Option.bind_eq_some_iff.mp H
            obtain ⟨⟨t142, t143, t144, t145⟩, A110, H⟩ := H
            replace H : ((rect_Within.f 2 2 5 5 t142 t143 t144 t145).bind fun t146 => (if t146 = true then ((rect_Tile.f 536870912 1073741824).bind fun t147 => (if t147 = 17 then ((rect_Of.f 17).bind fun bt148 => (if (bt148.1 == 536870912 && (bt148.2.1 == 1073741824 && (bt148.2.2.1 == 1073741823 && (bt148.2.2.2 == 1610612735)))) = true then ((rect_All.f).bind fun bt152 => ((rect_Count.f bt152.1 bt152.2.1 bt152.2.2.1 bt152.2.2.2).bind fun t156 => (if t156 = 64 then ((rect_Of.f 64).bind fun bt157 => ((rect_Empty.f bt157.1 bt157.2.1 bt157.2.2.1 bt157.2.2.2).bind fun t161 => (if t161 = true then ((rect_Hull.f 2 2 5 5 5 0 9 3).bind fun bt162 => (some (bt162.1 == 2 && (bt162.2.1 == 0 && (bt162.2.2.1 == 9 && (bt162.2.2.2 == 5)))))) else (none)))) else (none)))) else (none))) else (none))) else (none))) = some r := H
            have A11 := Aside0.mk A110
            clear A110
            replace H := Option.bind_eq_some_iff.mp H
            obtain ⟨t146, A120, H⟩ := H
            replace H : (if t146 = true then ((rect_Tile.f 536870912 1073741824).bind fun t147 => (if t147 = 17 then ((rect_Of.f 17).bind fun bt148 => (if (bt148.1 == 536870912 && (bt148.2.1 == 1073741824 && (bt148.2.2.1 == 1073741823 && (bt148.2.2.2 == 1610612735)))) = true then ((rect_All.f).bind fun bt152 => ((rect_Count.f bt152.1 bt152.2.1 bt152.2.2.1 bt152.2.2.2).bind fun t156 => (if t156 = 64 then ((rect_Of.f 64).bind fun bt157 => ((rect_Empty.f bt157.1 bt157.2.1 bt157.2.2.1 bt157.2.2.2).bind fun t161 => (if t161 = true then ((rect_Hull.f 2 2 5 5 5 0 9 3).bind fun bt162 => (some (bt162.1 == 2 && (bt162.2.1 == 0 && (bt162.2.2.1 == 9 && (bt162.2.2.2 == 5)))))) else (none)))) else (none)))) else (none))) else (none))) else (none)) = some r := H
            have A12 := Aside0.mk A120
            clear A120
            by_cases c13 : t146 = true
            · subst c13
              have H1 : ((rect_Tile.f 536870912 1073741824).bind fun t147 => (if t147 = 17 then ((rect_Of.f 17).bind fun bt148 => (if (bt148.1 == 536870912 && (bt148.2.1 == 1073741824 && (bt148.2.2.1 == 1073741823 && (bt148.2.2.2 == 1610612735)))) = true then ((rect_All.f).bind fun bt152 => ((rect_Count.f bt152.1 bt152.2.1 bt152.2.2.1 bt152.2.2.2).bind fun t156 => (if t156 = 64 then ((rect_Of.f 64).bind fun bt157 => ((rect_Empty.f bt157.1 bt157.2.1 bt157.2.2.1 bt157.2.2.2).bind fun t161 => (if t161 = true then ((rect_Hull.f 2 2 5 5 5 0 9 3).bind fun bt162 => (some (bt162.1 == 2 && (bt162.2.1 == 0 && (bt162.2.2.1 == 9 && (bt162.2.2.2 == 5)))))) else (none)))) else (none)))) else (none))) else (none))) = some r := by rw [if_pos rfl] at H; exact H
              clear H
              have H := H1
              clear H1
              replace H := Option.bind_eq_some_iff.mp H
              obtain ⟨t147, A140, H⟩ := H
              replace H : (if t147 = 17 then ((rect_Of.f 17).bind fun bt148 => (if (bt148.1 == 536870912 && (bt148.2.1 == 1073741824 && (bt148.2.2.1 == 1073741823 && (bt148.2.2.2 == 1610612735)))) = true then ((rect_All.f).bind fun bt152 => ((rect_Count.f bt152.1 bt152.2.1 bt152.2.2.1 bt152.2.2.2).bind fun t156 => (if t156 = 64 then ((rect_Of.f 64).bind fun bt157 => ((rect_Empty.f bt157.1 bt157.2.1 bt157.2.2.1 bt157.2.2.2).bind fun t161 => (if t161 = true then ((rect_Hull.f 2 2 5 5 5 0 9 3).bind fun bt162 => (some (bt162.1 == 2 && (bt162.2.1 == 0 && (bt162.2.2.1 == 9 && (bt162.2.2.2 == 5)))))) else (none)))) else (none)))) else (none))) else (none)) = some r := H
              have A14 := Aside0.mk A140
              clear A140
              by_cases c15 : t147 = 17
              · rw [if_pos c15] at H
                have c15b0 : (t147 == 17) = true := beq_iff_eq.mpr c15
                have c15b1 : (t147 != 17) = false := bne_eq_false_iff_eq.mpr c15
                clear c15
                replace H := Option.bind_eq_some_iff.mp H
                obtain ⟨⟨t148, t149, t150, t151⟩, A160, H⟩ := H
                replace H : (if (t148 == 536870912 && (t149 == 1073741824 && (t150 == 1073741823 && (t151 == 1610612735)))) = true then ((rect_All.f).bind fun bt152 => ((rect_Count.f bt152.1 bt152.2.1 bt152.2.2.1 bt152.2.2.2).bind fun t156 => (if t156 = 64 then ((rect_Of.f 64).bind fun bt157 => ((rect_Empty.f bt157.1 bt157.2.1 bt157.2.2.1 bt157.2.2.2).bind fun t161 => (if t161 = true then ((rect_Hull.f 2 2 5 5 5 0 9 3).bind fun bt162 => (some (bt162.1 == 2 && (bt162.2.1 == 0 && (bt162.2.2.1 == 9 && (bt162.2.2.2 == 5)))))) else (none)))) else (none)))) else (none)) = some r := H
                have A16 := Aside0.mk A160
                clear A160
                by_cases c17 : (t148 == 536870912 && (t149 == 1073741824 && (t150 == 1073741823 && (t151 == 1610612735)))) = true
                · rw [if_pos c17] at H
                  have c17b0 : (t148 == 536870912 && (t149 == 1073741824 && (t150 == 1073741823 && (t151 == 1610612735)))) = true := c17
                  (try (have c17b1 : decide (t148 = 536870912 && (t149 == 1073741824 && (t150 == 1073741823 && (t151 == 1610612735)))) = true := by simpa using c17))
                  (try (have c17b2 : (t148 == 536870912 && (t149 == 1073741824 && (t150 == 1073741823 && (t151 == 1610612735)))) = true := by simpa using c17))
                  clear c17
                  replace H := Option.bind_eq_some_iff.mp H
                  obtain ⟨⟨t152, t153, t154, t155⟩, A180, H⟩ := H
                  replace H : ((rect_Count.f t152 t153 t154 t155).bind fun t156 => (if t156 = 64 then ((rect_Of.f 64).bind fun bt157 => ((rect_Empty.f bt157.1 bt157.2.1 bt157.2.2.1 bt157.2.2.2).bind fun t161 => (if t161 = true then ((rect_Hull.f 2 2 5 5 5 0 9 3).bind fun bt162 => (some (bt162.1 == 2 && (bt162.2.1 == 0 && (bt162.2.2.1 == 9 && (bt162.2.2.2 == 5)))))) else (none)))) else (none))) = some r := H
                  have A18 := Aside0.mk A180
                  clear A180
                  replace H := Option.bind_eq_some_iff.mp H
                  obtain ⟨t156, A190, H⟩ := H
                  replace H : (if t156 = 64 then ((rect_Of.f 64).bind fun bt157 => ((rect_Empty.f bt157.1 bt157.2.1 bt157.2.2.1 bt157.2.2.2).bind fun t161 => (if t161 = true then ((rect_Hull.f 2 2 5 5 5 0 9 3).bind fun bt162 => (some (bt162.1 == 2 && (bt162.2.1 == 0 && (bt162.2.2.1 == 9 && (bt162.2.2.2 == 5)))))) else (none)))) else (none)) = some r := H
                  have A19 := Aside0.mk A190
                  clear A190
                  by_cases c20 : t156 = 64
                  · rw [if_pos c20] at H
                    have c20b0 : (t156 == 64) = true := beq_iff_eq.mpr c20
                    have c20b1 : (t156 != 64) = false := bne_eq_false_iff_eq.mpr c20
                    clear c20
                    replace H := Option.bind_eq_some_iff.mp H
                    obtain ⟨⟨t157, t158, t159, t160⟩, A210, H⟩ := H
                    replace H : ((rect_Empty.f t157 t158 t159 t160).bind fun t161 => (if t161 = true then ((rect_Hull.f 2 2 5 5 5 0 9 3).bind fun bt162 => (some (bt162.1 == 2 && (bt162.2.1 == 0 && (bt162.2.2.1 == 9 && (bt162.2.2.2 == 5)))))) else (none))) = some r := H
                    have A21 := Aside0.mk A210
                    clear A210
                    replace H := Option.bind_eq_some_iff.mp H
                    obtain ⟨t161, A220, H⟩ := H
                    replace H : (if t161 = true then ((rect_Hull.f 2 2 5 5 5 0 9 3).bind fun bt162 => (some (bt162.1 == 2 && (bt162.2.1 == 0 && (bt162.2.2.1 == 9 && (bt162.2.2.2 == 5)))))) else (none)) = some r := H
                    have A22 := Aside0.mk A220
                    clear A220
                    by_cases c23 : t161 = true
                    · subst c23
                      have H1 : ((rect_Hull.f 2 2 5 5 5 0 9 3).bind fun bt162 => (some (bt162.1 == 2 && (bt162.2.1 == 0 && (bt162.2.2.1 == 9 && (bt162.2.2.2 == 5)))))) = some r := by rw [if_pos rfl] at H; exact H
                      clear H
                      have H := H1
                      clear H1
                      replace H := Option.bind_eq_some_iff.mp H
                      obtain ⟨⟨t162, t163, t164, t165⟩, A240, H⟩ := H
                      replace H : (some (t162 == 2 && (t163 == 0 && (t164 == 9 && (t165 == 5))))) = some r := H
                      have A24 := Aside0.mk A240
                      clear A240
                      obtain rfl := Option.some.inj H
                      refine (callsIn_wide (n := 4)).1 (callsIn_of_wp_marks Try.func14 rfl trivial ?_ rfl)
                      simp only [Try.ntmps14, List.size_toArray, List.length_cons, List.length_nil, Nat.reduceAdd, Nat.reduceSub, Array.replicate_succ, Array.replicate_zero, List.push_toArray, List.append_toArray, List.nil_append, List.cons_append]
                      iterate 55 gi_step
                      refine ⟨trivial, (touched_in _ 2 2 5 5 _).mono ?_⟩
                      rintro e w' ⟨rfl, rfl⟩
                      gi_wp2
                      have hz3 : (((w.alloc (.cells #[.int .u32 2, .int .u32 2, .int .u32 5, .int .u32 5] 24)).alloc (.cells #[.int .u32 5, .int .u32 0, .int .u32 9, .int .u32 3] 24)).alloc (.cells #[.int .i64 0] 3)).heap.size = w.heap.size + 1 + 1 + 1 := by simp
                      have hs : ((((w.alloc (.cells #[.int .u32 2, .int .u32 2, .int .u32 5, .int .u32 5] 24)).alloc (.cells #[.int .u32 5, .int .u32 0, .int .u32 9, .int .u32 3] 24)).alloc (.cells #[.int .i64 0] 3)).alloc (.cells (rc 2 2 5 5) 24)).heap[w.heap.size + 1 + 1]? = some (.cells #[.int .i64 0] 3 (0, 0)) := (Below.heap_alloc _ _ _ (by simp)).trans (by have := World.alloc_heap_new ((w.alloc (.cells #[.int .u32 2, .int .u32 2, .int .u32 5, .int .u32 5] 24)).alloc (.cells #[.int .u32 5, .int .u32 0, .int .u32 9, .int .u32 3] 24)) (.cells #[.int .i64 0] 3 (0, 0)); simpa using this)
                      have ha : ((((w.alloc (.cells #[.int .u32 2, .int .u32 2, .int .u32 5, .int .u32 5] 24)).alloc (.cells #[.int .u32 5, .int .u32 0, .int .u32 9, .int .u32 3] 24)).alloc (.cells #[.int .i64 0] 3)).alloc (.cells (rc 2 2 5 5) 24)).heap[w.heap.size]? = some (.cells #[.int .u32 2, .int .u32 2, .int .u32 5, .int .u32 5] 24 (0, 0)) := (Below.heap_alloc _ _ _ (by simp; omega)).trans ((Below.heap_alloc _ _ _ (by simp; omega)).trans ((Below.heap_alloc _ _ _ (by simp)).trans (World.alloc_heap_new w _)))
                      have hb2 : ((((w.alloc (.cells #[.int .u32 2, .int .u32 2, .int .u32 5, .int .u32 5] 24)).alloc (.cells #[.int .u32 5, .int .u32 0, .int .u32 9, .int .u32 3] 24)).alloc (.cells #[.int .i64 0] 3)).alloc (.cells (rc 2 2 5 5) 24)).heap[w.heap.size + 1]? = some (.cells #[.int .u32 5, .int .u32 0, .int .u32 9, .int .u32 3] 24 (0, 0)) := (Below.heap_alloc _ _ _ (by simp)).trans ((Below.heap_alloc _ _ _ (by simp)).trans (by have := World.alloc_heap_new (w.alloc (.cells #[.int .u32 2, .int .u32 2, .int .u32 5, .int .u32 5] 24)) (.cells #[.int .u32 5, .int .u32 0, .int .u32 9, .int .u32 3] 24 (0, 0)); simpa using this))
                      have hbx : ((((w.alloc (.cells #[.int .u32 2, .int .u32 2, .int .u32 5, .int .u32 5] 24)).alloc (.cells #[.int .u32 5, .int .u32 0, .int .u32 9, .int .u32 3] 24)).alloc (.cells #[.int .i64 0] 3)).alloc (.cells (rc 2 2 5 5) 24)).heap[w.heap.size + 1 + 1 + 1]? = some (.cells (rc 2 2 5 5) 24 (0, 0)) := by
                        have := World.alloc_heap_new (((w.alloc (.cells #[.int .u32 2, .int .u32 2, .int .u32 5, .int .u32 5] 24)).alloc (.cells #[.int .u32 5, .int .u32 0, .int .u32 9, .int .u32 3] 24)).alloc (.cells #[.int .i64 0] 3)) (.cells (rc 2 2 5 5) 24 (0, 0))
                        simpa using this
                      have hB0 : Below w.heap.size w ((((w.alloc (.cells #[.int .u32 2, .int .u32 2, .int .u32 5, .int .u32 5] 24)).alloc (.cells #[.int .u32 5, .int .u32 0, .int .u32 9, .int .u32 3] 24)).alloc (.cells #[.int .i64 0] 3)).alloc (.cells (rc 2 2 5 5) 24)) := ((((Below.refl _ w).alloc (Nat.le_refl _) _).alloc (by simp) _).alloc (by simp; omega) _).alloc (by simp; omega) _
                      have hz4 : ((((w.alloc (.cells #[.int .u32 2, .int .u32 2, .int .u32 5, .int .u32 5] 24)).alloc (.cells #[.int .u32 5, .int .u32 0, .int .u32 9, .int .u32 3] 24)).alloc (.cells #[.int .i64 0] 3)).alloc (.cells (rc 2 2 5 5) 24)).heap.size = w.heap.size + 1 + 1 + 1 + 1 := by simp
                      generalize ((((w.alloc (.cells #[.int .u32 2, .int .u32 2, .int .u32 5, .int .u32 5] 24)).alloc (.cells #[.int .u32 5, .int .u32 0, .int .u32 9, .int .u32 3] 24)).alloc (.cells #[.int .i64 0] 3)).alloc (.cells (rc 2 2 5 5) 24)) = W4 at hs ha hb2 hbx hB0 hz4 ⊢
                      refine wpIn_rangeFunc_ownF rfl (by decide) (gf := 22) (lb := #[.pointer (some ⟨w.heap.size + 1 + 1 + 1, 0, none⟩)]) rfl trivial (enters_of Try.func22 (by kernel_rfl) rfl)
                        (touch_stops 3 (by decide) (w.heap.size + 1 + 1 + 1) 2 2 5 5 (by decide) (by decide) (by decide) (by decide) _ (by omega) hbx) (fun h k => k.trans h) ?kb (Below.refl _ _) (fun _ => rfl)
                        (fun pre W => (((W.heap[w.heap.size + 1 + 1]? = some (.cells #[.int .i64 (pre.length : Int)] 3 (0, 0)) ∧ W.heap[w.heap.size]? = some (.cells #[.int .u32 2, .int .u32 2, .int .u32 5, .int .u32 5] 24 (0, 0))) ∧ W.heap[w.heap.size + 1]? = some (.cells #[.int .u32 5, .int .u32 0, .int .u32 9, .int .u32 3] 24 (0, 0))) ∧ Below w.heap.size w W))
                        (fun _ _ _ => False)
                        ?own
                        (fun _ _ _ _ _ hs _ _ => hs)
                        ⟨⟨⟨hs, ha⟩, hb2⟩, hB0⟩
                        (fun x => { tmps := #[.bool false, .pointer (some ⟨w.heap.size, 0, none⟩), .pointer (some ⟨w.heap.size + 1, 0, none⟩), .pointer (some ⟨w.heap.size + 1 + 1, 0, none⟩), .func (.func 22) #[] #[.pointer (some ⟨w.heap.size + 1 + 1 + 1, 0, none⟩)], .agg #[.int .u32 2, .int .u32 2, .int .u32 5, .int .u32 5], .agg #[.int .u32 5, .int .u32 0, .int .u32 9, .int .u32 3], .agg #[.int .u32 2, .int .u32 2, .int .u32 5, .int .u32 5], .func (.func 22) #[] #[.pointer (some ⟨w.heap.size + 1 + 1 + 1, 0, none⟩)], .func (.func 22) #[] #[.pointer (some ⟨w.heap.size + 1 + 1 + 1, 0, none⟩)], .bool false, .func (.func 22) #[] #[.pointer (some ⟨w.heap.size + 1 + 1 + 1, 0, none⟩)], .int .i64 x, undef, undef, undef, undef, undef, undef, undef, undef, undef, undef, undef, undef, undef, undef, undef, undef, undef, undef, undef, undef, undef, undef, undef, undef, undef, undef, undef, undef, undef, undef, undef, undef, undef, undef, undef, undef, undef, undef, undef, undef, undef, undef, undef, undef, undef, undef, undef, undef, undef, undef, undef, undef, undef, undef, undef, undef, undef, undef, undef, undef, undef], defers := [] }) ?assign ?body ?done ?stop
                      case own =>
                        exact OwnFrom.and (OwnFrom.and (OwnFrom.and (Own.from (own_row _ (fun pre : List Int => .cells #[.int .i64 (pre.length : Int)] 3 (0, 0)) (fun _ => rfl)) _) (Own.from (own_row _ _ (fun _ => rfl)) _)) (Own.from (own_row _ _ (fun _ => rfl)) _)) (ownFrom_below (Nat.le_refl _) (by omega))
                      case kb =>
                        intro W l o o' hl _ _ _
                        refine World.putObj_heap_other ?_
                        omega
                      case assign =>
                        intro l x W K hK
                        gi_wp2
                        simpa using hK
                      case body =>
                        rintro l pre x W ⟨⟨⟨hc, ha⟩, hb2⟩, hB⟩ hlt
                        have hcc := (blk_cell hc 0).trans rfl
                        have hcf := blk_frozen hc 0
                        gi_wp2
                        have e : ((pre.length : Int) + 1) = ((pre ++ [x]).length : Int) := by rw [List.length_append]; simp
                        rw [e]
                        exact ⟨KeepsOthers.setCell _ _ _, Below.heap_setCell W _ _ _ (by simp), ⟨⟨blk_put hc 0 _ rfl, blk_far ha (by simp; omega) _⟩, blk_far hb2 (by simp) _⟩, hB.setCell (p := ⟨w.heap.size + 1 + 1, 0, none⟩) (by simp; omega) _⟩
                      case stop =>
                        rintro D c pre W _ _ h _
                        exact h.elim
                      rintro D ys W hD rfl ⟨⟨⟨hc, ha⟩, hb2⟩, hB⟩ hK
                      dsimp only
                      iterate 2 gi_step
                      refine wpIn_wide.2 ?_
                      try go_wp2
                      have hl1 : ((touchT 2 2 5 5).length : Int) = 1 := by decide +kernel
                      rw [hl1] at hc
                      have BK131 := Aside0.mk ha
                      have BK132 := Aside0.mk hb2
                      have BK133 := Aside0.mk hc
                      have HB := Aside0.mk (Below.refl W.heap.size W)
                      have hD0 : w.heap.size ≤ D := by omega
                      clear hs ha hb2 hbx hB0 hz4 hc hz3 hl1
                      replace hB := Aside0.mk hB
                      generalize w.heap.size + 1 + 1 = gb133 at BK133 ⊢
                      generalize w.heap.size + 1 = gb132 at BK132 ⊢
                      generalize w.heap.size = gb131 at BK131 ⊢
                      have n0_ := Aside0.mk (blk_drew BK131.out)
                      have n1_ := Aside0.mk (blk_drew BK132.out)
                      have n2_ := Aside0.mk (blk_drew BK133.out)
                      have n3_ := Aside0.mk (below_drew1 HB.out)
                      clear BK131 BK132 BK133 HB
                      have BK131 := n0_
                      have BK132 := n1_
                      have BK133 := n2_
                      have HB := n3_
                      clear n0_ n1_ n2_ n3_
                      refine Code.wp_mono (Q := noPanic _) (fun _ _ _ h => noPanic_le h) ?_
                      refine start_ (n := 60) (S := fun w' => w'.cell? ⟨gb131, 0, none⟩ = some (.int .u32 2) ∧ w'.cell? ⟨gb131, 1, none⟩ = some (.int .u32 2) ∧ w'.cell? ⟨gb131, 2, none⟩ = some (.int .u32 5) ∧ w'.cell? ⟨gb131, 3, none⟩ = some (.int .u32 5) ∧ w'.cell? ⟨gb132, 0, none⟩ = some (.int .u32 5) ∧ w'.cell? ⟨gb132, 1, none⟩ = some (.int .u32 0) ∧ w'.cell? ⟨gb132, 2, none⟩ = some (.int .u32 9) ∧ w'.cell? ⟨gb132, 3, none⟩ = some (.int .u32 3) ∧ w'.cell? ⟨gb133, 0, none⟩ = some (.int .i64 1)) (ds := []) #[false, false, false, false, false, false, false, false, false, false, false, false, false, false, false, false, false, false, false, false, false, false, false, false, false, false, false, false, false, false, false, false, false, false, false, false, false, false, false, false, false, false, false, false, false, false, false, false, false, false, false, false, false, false, false, false, false, false, false, false] (by kernel_rfl) rfl rfl ⟨(blk_cell BK131.out 0).trans rfl, (blk_cell BK131.out 1).trans rfl, (blk_cell BK131.out 2).trans rfl, (blk_cell BK131.out 3).trans rfl, (blk_cell BK132.out 0).trans rfl, (blk_cell BK132.out 1).trans rfl, (blk_cell BK132.out 2).trans rfl, (blk_cell BK132.out 3).trans rfl, (blk_cell BK133.out 0).trans rfl⟩ (fun hHeld => ?_); refine with_tabW counterpanelaw04_works.tab9 counterpanelaw04_works.bits9 (fun HT_ HW_ => ?_)
                      generalize W.drew = w35 at BK131 BK132 BK133 HB hHeld ⊢
                      refine take_ (i := 0) (N := some 15) (v := ?_) (a' := ?_) #[true, false, false, false, false, false, false, false, false, false, false, false, false, false, false, false, false, false, false, false, false, false, false, false, false, false, false, false, false, false, false, false, false, false, false, false, false, false, false, false, false, false, false, false, false, false, false, false, false, false, false, false, false, false, false, false, false, false, false, false] rfl rfl (take_ofW HT_.out HW_.out (by kernel_rfl)) (fun _ _ _ h => h) (Or.inl ⟨by rfl, ?_⟩) hHeld ?_ ?_
                      rotate_left
                      · rintro w' ⟨s0, s1, s2, s3, s4, s5, s6, s7, s8⟩
                        go_simp
                        with_reducible rfl
                      rotate_left
                      · simp only [Act.put, List.setIfInBounds_toArray, List.set_cons_zero, List.set_cons_succ, i64_w, i32_w]
                        rfl
                      refine one_ (i := 1) (N := some 16) #[true, true, false, false, false, false, false, false, false, false, false, false, false, false, false, false, false, false, false, false, false, false, false, false, false, false, false, false, false, false, false, false, false, false, false, false, false, false, false, false, false, false, false, false, false, false, false, false, false, false, false, false, false, false, false, false, false, false, false, false] rfl rfl (one_of HT_.out (by kernel_rfl)) (by decide) (fun K hK => ?_)
                      refine goes_ Try.func7 (by kernel_rfl) rfl #[.agg #[.int .u32 2, .int .u32 2, .int .u32 5, .int .u32 5], .int .u32 5, .int .u32 2] (by rfl) rfl rfl (by (try simp only [List.map_toArray, List.map_cons, List.map_nil]); first | done | rfl | (simp only [List.length_drop, List.length_take]; rfl) | (simp; done)) ?_
                      with_reducible refine (rect_Has.calls 2 2 5 5 5 2 true _ A1.out).mono ?_
                      rintro e w36 ⟨rfl, hb⟩
                      refine ⟨_, rfl, ?_⟩
                      have n0_ := Aside0.mk (blk_below (g := gb131) (o := .cells #[.int .u32 2, .int .u32 2, .int .u32 5, .int .u32 5] 24 (0, 0)) (by (with_reducible repeat (first | refine blk_drewN ?_ _ | refine blk_drew ?_ | refine blk_alloc ?_ _)); exact BK131.out) hb)
                      have n1_ := Aside0.mk (blk_below (g := gb132) (o := .cells #[.int .u32 5, .int .u32 0, .int .u32 9, .int .u32 3] 24 (0, 0)) (by (with_reducible repeat (first | refine blk_drewN ?_ _ | refine blk_drew ?_ | refine blk_alloc ?_ _)); exact BK132.out) hb)
                      have n2_ := Aside0.mk (blk_below (g := gb133) (o := .cells #[.int .i64 1] 3 (0, 0)) (by (with_reducible repeat (first | refine blk_drewN ?_ _ | refine blk_drew ?_ | refine blk_alloc ?_ _)); exact BK133.out) hb)
                      have n3_ := Aside0.mk (below_step (by repeat (first | (with_reducible first | exact HB.out | apply below_alloc | apply pw_below_drewN | apply below_drew1 | refine below_set ?_ GE131.out | refine below_set ?_ GE132.out | refine below_set ?_ GE133.out) | exact HB.out)) hb)
                      clear BK131
                      clear BK132
                      clear BK133
                      clear HB
                      have BK131 := n0_
                      have BK132 := n1_
                      have BK133 := n2_
                      have HB := n3_
                      clear n0_ n1_ n2_ n3_
                      (try clear hb)
                      (try clear hb2)
                      (try clear hk)
                      (try clear hi)
                      refine hK.out _ _ ⟨(blk_cell BK131.out 0).trans rfl, (blk_cell BK131.out 1).trans rfl, (blk_cell BK131.out 2).trans rfl, (blk_cell BK131.out 3).trans rfl, (blk_cell BK132.out 0).trans rfl, (blk_cell BK132.out 1).trans rfl, (blk_cell BK132.out 2).trans rfl, (blk_cell BK132.out 3).trans rfl, (blk_cell BK133.out 0).trans rfl⟩ (fun hHeld => ?_)
                      clear hK K
                      refine norm_ (a' := ?_) ?_ ?_
                      rotate_left
                      · show Act.put _ (some 16) _ = _
                        simp only [Act.put, List.setIfInBounds_toArray, List.set_cons_zero, List.set_cons_succ, i64_w, i32_w]
                        rfl
                      refine pure_ (i := 2) (N := some 17) (v := ?_) (a' := ?_) #[true, true, true, false, false, false, false, false, false, false, false, false, false, false, false, false, false, false, false, false, false, false, false, false, false, false, false, false, false, false, false, false, false, false, false, false, false, false, false, false, false, false, false, false, false, false, false, false, false, false, false, false, false, false, false, false, false, false, false, false] rfl rfl (any_of HT_.out (by kernel_rfl)) (fun _ _ _ h => h) (Or.inl ⟨by rfl, ?_⟩) ?_ ?_
                      rotate_left
                      · intro w'
                        go_simp
                        with_reducible rfl
                      rotate_left
                      · simp only [Act.put, List.setIfInBounds_toArray, List.set_cons_zero, List.set_cons_succ, i64_w, i32_w]
                        rfl
                      refine take_ (i := 3) (N := some 18) (v := ?_) (a' := ?_) #[true, true, true, true, false, false, false, false, false, false, false, false, false, false, false, false, false, false, false, false, false, false, false, false, false, false, false, false, false, false, false, false, false, false, false, false, false, false, false, false, false, false, false, false, false, false, false, false, false, false, false, false, false, false, false, false, false, false, false, false] rfl rfl (take_ofW HT_.out HW_.out (by kernel_rfl)) (fun _ _ _ h => h) (Or.inl ⟨by rfl, ?_⟩) hHeld ?_ ?_
                      rotate_left
                      · rintro w' ⟨s0, s1, s2, s3, s4, s5, s6, s7, s8⟩
                        go_simp
                        with_reducible rfl
                      rotate_left
                      · simp only [Act.put, List.setIfInBounds_toArray, List.set_cons_zero, List.set_cons_succ, i64_w, i32_w]
                        rfl
                      refine one_ (i := 4) (N := some 19) #[true, true, true, true, true, false, false, false, false, false, false, false, false, false, false, false, false, false, false, false, false, false, false, false, false, false, false, false, false, false, false, false, false, false, false, false, false, false, false, false, false, false, false, false, false, false, false, false, false, false, false, false, false, false, false, false, false, false, false, false] rfl rfl (one_of HT_.out (by kernel_rfl)) (by decide) (fun K hK => ?_)
                      refine goes_ Try.func7 (by kernel_rfl) rfl #[.agg #[.int .u32 2, .int .u32 2, .int .u32 5, .int .u32 5], .int .u32 6, .int .u32 2] (by rfl) rfl rfl (by (try simp only [List.map_toArray, List.map_cons, List.map_nil]); first | done | rfl | (simp only [List.length_drop, List.length_take]; rfl) | (simp; done)) ?_
                      with_reducible refine (rect_Has.calls 2 2 5 5 6 2 false _ A3.out).mono ?_
                      rintro e w37 ⟨rfl, hb⟩
                      refine ⟨_, rfl, ?_⟩
                      have n0_ := Aside0.mk (blk_below (g := gb131) (o := .cells #[.int .u32 2, .int .u32 2, .int .u32 5, .int .u32 5] 24 (0, 0)) (by (with_reducible repeat (first | refine blk_drewN ?_ _ | refine blk_drew ?_ | refine blk_alloc ?_ _)); exact BK131.out) hb)
                      have n1_ := Aside0.mk (blk_below (g := gb132) (o := .cells #[.int .u32 5, .int .u32 0, .int .u32 9, .int .u32 3] 24 (0, 0)) (by (with_reducible repeat (first | refine blk_drewN ?_ _ | refine blk_drew ?_ | refine blk_alloc ?_ _)); exact BK132.out) hb)
                      have n2_ := Aside0.mk (blk_below (g := gb133) (o := .cells #[.int .i64 1] 3 (0, 0)) (by (with_reducible repeat (first | refine blk_drewN ?_ _ | refine blk_drew ?_ | refine blk_alloc ?_ _)); exact BK133.out) hb)
                      have n3_ := Aside0.mk (below_step (by repeat (first | (with_reducible first | exact HB.out | apply below_alloc | apply pw_below_drewN | apply below_drew1 | refine below_set ?_ GE131.out | refine below_set ?_ GE132.out | refine below_set ?_ GE133.out) | exact HB.out)) hb)
                      clear BK131
                      clear BK132
                      clear BK133
                      clear HB
                      have BK131 := n0_
                      have BK132 := n1_
                      have BK133 := n2_
                      have HB := n3_
                      clear n0_ n1_ n2_ n3_
                      (try clear hb)
                      (try clear hb2)
                      (try clear hk)
                      (try clear hi)
                      refine hK.out _ _ ⟨(blk_cell BK131.out 0).trans rfl, (blk_cell BK131.out 1).trans rfl, (blk_cell BK131.out 2).trans rfl, (blk_cell BK131.out 3).trans rfl, (blk_cell BK132.out 0).trans rfl, (blk_cell BK132.out 1).trans rfl, (blk_cell BK132.out 2).trans rfl, (blk_cell BK132.out 3).trans rfl, (blk_cell BK133.out 0).trans rfl⟩ (fun hHeld => ?_)
                      clear hK K
                      refine norm_ (a' := ?_) ?_ ?_
                      rotate_left
                      · show Act.put _ (some 19) _ = _
                        simp only [Act.put, List.setIfInBounds_toArray, List.set_cons_zero, List.set_cons_succ, i64_w, i32_w]
                        rfl
                      refine pure_ (i := 5) (N := some 20) (v := ?_) (a' := ?_) #[true, true, true, true, true, true, false, false, false, false, false, false, false, false, false, false, false, false, false, false, false, false, false, false, false, false, false, false, false, false, false, false, false, false, false, false, false, false, false, false, false, false, false, false, false, false, false, false, false, false, false, false, false, false, false, false, false, false, false, false] rfl rfl (any_of HT_.out (by kernel_rfl)) (fun _ _ _ h => h) (Or.inl ⟨by rfl, ?_⟩) ?_ ?_
                      rotate_left
                      · intro w'
                        go_simp
                        with_reducible rfl
                      rotate_left
                      · simp only [Act.put, List.setIfInBounds_toArray, List.set_cons_zero, List.set_cons_succ, i64_w, i32_w]
                        rfl
                      refine pure_ (i := 6) (N := some 21) (v := ?_) (a' := ?_) #[true, true, true, true, true, true, true, false, false, false, false, false, false, false, false, false, false, false, false, false, false, false, false, false, false, false, false, false, false, false, false, false, false, false, false, false, false, false, false, false, false, false, false, false, false, false, false, false, false, false, false, false, false, false, false, false, false, false, false, false] rfl rfl (any_of HT_.out (by kernel_rfl)) (fun _ _ _ h => h) (Or.inl ⟨by rfl, ?_⟩) ?_ ?_
                      rotate_left
                      · intro w'
                        go_simp
                        with_reducible rfl
                      rotate_left
                      · simp only [Act.put, List.setIfInBounds_toArray, List.set_cons_zero, List.set_cons_succ, i64_w, i32_w]
                        rfl
                      refine pure_ (i := 7) (N := some 22) (v := ?_) (a' := ?_) #[true, true, true, true, true, true, true, true, false, false, false, false, false, false, false, false, false, false, false, false, false, false, false, false, false, false, false, false, false, false, false, false, false, false, false, false, false, false, false, false, false, false, false, false, false, false, false, false, false, false, false, false, false, false, false, false, false, false, false, false] rfl rfl (any_of HT_.out (by kernel_rfl)) (fun _ _ _ h => h) (Or.inl ⟨by rfl, ?_⟩) ?_ ?_
                      rotate_left
                      · intro w'
                        go_simp
                        with_reducible rfl
                      rotate_left
                      · simp only [Act.put, List.setIfInBounds_toArray, List.set_cons_zero, List.set_cons_succ, i64_w, i32_w]
                        rfl
                      refine pure_ (i := 11) (N := some 26) (v := ?_) (a' := ?_) #[true, true, true, true, true, true, true, true, false, false, false, true, false, false, false, false, false, false, false, false, false, false, false, false, false, false, false, false, false, false, false, false, false, false, false, false, false, false, false, false, false, false, false, false, false, false, false, false, false, false, false, false, false, false, false, false, false, false, false, false] rfl rfl (any_of HT_.out (by kernel_rfl)) (fun _ _ _ h => h) (Or.inl ⟨by rfl, ?_⟩) ?_ ?_
                      rotate_left
                      · intro w'
                        go_simp
                        with_reducible rfl
                      rotate_left
                      · simp only [Act.put, List.setIfInBounds_toArray, List.set_cons_zero, List.set_cons_succ, i64_w, i32_w]
                        rfl
                      refine take_ (i := 8) (N := some 23) (v := ?_) (a' := ?_) #[true, true, true, true, true, true, true, true, true, false, false, true, false, false, false, false, false, false, false, false, false, false, false, false, false, false, false, false, false, false, false, false, false, false, false, false, false, false, false, false, false, false, false, false, false, false, false, false, false, false, false, false, false, false, false, false, false, false, false, false] rfl rfl (take_ofW HT_.out HW_.out (by kernel_rfl)) (fun _ _ _ h => h) (Or.inl ⟨by rfl, ?_⟩) hHeld ?_ ?_
                      rotate_left
                      · rintro w' ⟨s0, s1, s2, s3, s4, s5, s6, s7, s8⟩
                        go_simp
                        with_reducible rfl
                      rotate_left
                      · simp only [Act.put, List.setIfInBounds_toArray, List.set_cons_zero, List.set_cons_succ, i64_w, i32_w]
                        rfl
                      refine take_ (i := 9) (N := some 24) (v := ?_) (a' := ?_) #[true, true, true, true, true, true, true, true, true, true, false, true, false, false, false, false, false, false, false, false, false, false, false, false, false, false, false, false, false, false, false, false, false, false, false, false, false, false, false, false, false, false, false, false, false, false, false, false, false, false, false, false, false, false, false, false, false, false, false, false] rfl rfl (take_ofW HT_.out HW_.out (by kernel_rfl)) (fun _ _ _ h => h) (Or.inl ⟨by rfl, ?_⟩) hHeld ?_ ?_
                      rotate_left
                      · rintro w' ⟨s0, s1, s2, s3, s4, s5, s6, s7, s8⟩
                        go_simp
                        with_reducible rfl
                      rotate_left
                      · simp only [Act.put, List.setIfInBounds_toArray, List.set_cons_zero, List.set_cons_succ, i64_w, i32_w]
                        rfl
                      refine one_ (i := 10) (N := some 25) #[true, true, true, true, true, true, true, true, true, true, true, true, false, false, false, false, false, false, false, false, false, false, false, false, false, false, false, false, false, false, false, false, false, false, false, false, false, false, false, false, false, false, false, false, false, false, false, false, false, false, false, false, false, false, false, false, false, false, false, false] rfl rfl (one_of HT_.out (by kernel_rfl)) (by decide) (fun K hK => ?_)
                      refine goes_ Try.func8 (by kernel_rfl) rfl #[.agg #[.int .u32 2, .int .u32 2, .int .u32 5, .int .u32 5], .agg #[.int .u32 5, .int .u32 0, .int .u32 9, .int .u32 3]] (by rfl) rfl rfl (by (try simp only [List.map_toArray, List.map_cons, List.map_nil]); first | done | rfl | (simp only [List.length_drop, List.length_take]; rfl) | (simp; done)) ?_
                      with_reducible refine (rect_Meet.calls 2 2 5 5 5 0 9 3 t136 t137 t138 t139 _ A5.out).mono ?_
                      rintro e w38 ⟨rfl, hb⟩
                      refine ⟨_, rfl, ?_⟩
                      have n0_ := Aside0.mk (blk_below (g := gb131) (o := .cells #[.int .u32 2, .int .u32 2, .int .u32 5, .int .u32 5] 24 (0, 0)) (by (with_reducible repeat (first | refine blk_drewN ?_ _ | refine blk_drew ?_ | refine blk_alloc ?_ _)); exact BK131.out) hb)
                      have n1_ := Aside0.mk (blk_below (g := gb132) (o := .cells #[.int .u32 5, .int .u32 0, .int .u32 9, .int .u32 3] 24 (0, 0)) (by (with_reducible repeat (first | refine blk_drewN ?_ _ | refine blk_drew ?_ | refine blk_alloc ?_ _)); exact BK132.out) hb)
                      have n2_ := Aside0.mk (blk_below (g := gb133) (o := .cells #[.int .i64 1] 3 (0, 0)) (by (with_reducible repeat (first | refine blk_drewN ?_ _ | refine blk_drew ?_ | refine blk_alloc ?_ _)); exact BK133.out) hb)
                      have n3_ := Aside0.mk (below_step (by repeat (first | (with_reducible first | exact HB.out | apply below_alloc | apply pw_below_drewN | apply below_drew1 | refine below_set ?_ GE131.out | refine below_set ?_ GE132.out | refine below_set ?_ GE133.out) | exact HB.out)) hb)
                      clear BK131
                      clear BK132
                      clear BK133
                      clear HB
                      have BK131 := n0_
                      have BK132 := n1_
                      have BK133 := n2_
                      have HB := n3_
                      clear n0_ n1_ n2_ n3_
                      (try clear hb)
                      (try clear hb2)
                      (try clear hk)
                      (try clear hi)
                      refine hK.out _ _ ⟨(blk_cell BK131.out 0).trans rfl, (blk_cell BK131.out 1).trans rfl, (blk_cell BK131.out 2).trans rfl, (blk_cell BK131.out 3).trans rfl, (blk_cell BK132.out 0).trans rfl, (blk_cell BK132.out 1).trans rfl, (blk_cell BK132.out 2).trans rfl, (blk_cell BK132.out 3).trans rfl, (blk_cell BK133.out 0).trans rfl⟩ (fun hHeld => ?_)
                      clear hK K
                      refine norm_ (a' := ?_) ?_ ?_
                      rotate_left
                      · show Act.put _ (some 25) _ = _
                        simp only [Act.put, List.setIfInBounds_toArray, List.set_cons_zero, List.set_cons_succ, i64_w, i32_w]
                        rfl
                      refine pure_ (i := 12) (N := some 27) (v := ?_) (a' := ?_) #[true, true, true, true, true, true, true, true, true, true, true, true, true, false, false, false, false, false, false, false, false, false, false, false, false, false, false, false, false, false, false, false, false, false, false, false, false, false, false, false, false, false, false, false, false, false, false, false, false, false, false, false, false, false, false, false, false, false, false, false] rfl rfl (any_of HT_.out (by kernel_rfl)) (fun _ _ _ h => h) (Or.inl ⟨by rfl, ?_⟩) ?_ ?_
                      rotate_left
                      · intro w'
                        go_simp
                        with_reducible rfl
                      rotate_left
                      · simp only [Act.put, List.setIfInBounds_toArray, List.set_cons_zero, List.set_cons_succ, i64_w, i32_w]
                        rfl
                      refine pure_ (i := 13) (N := some 28) (v := ?_) (a' := ?_) #[true, true, true, true, true, true, true, true, true, true, true, true, true, true, false, false, false, false, false, false, false, false, false, false, false, false, false, false, false, false, false, false, false, false, false, false, false, false, false, false, false, false, false, false, false, false, false, false, false, false, false, false, false, false, false, false, false, false, false, false] rfl rfl (any_of HT_.out (by kernel_rfl)) (fun _ _ _ h => h) (Or.inl ⟨by rfl, ?_⟩) ?_ ?_
                      rotate_left
                      · intro w'
                        go_simp
                        with_reducible rfl
                      rotate_left
                      · simp only [Act.put, List.setIfInBounds_toArray, List.set_cons_zero, List.set_cons_succ, i64_w, i32_w]
                        rfl
                      refine pure_ (i := 14) (N := some 29) (v := ?_) (a' := ?_) #[true, true, true, true, true, true, true, true, true, true, true, true, true, true, true, false, false, false, false, false, false, false, false, false, false, false, false, false, false, false, false, false, false, false, false, false, false, false, false, false, false, false, false, false, false, false, false, false, false, false, false, false, false, false, false, false, false, false, false, false] rfl rfl (any_of HT_.out (by kernel_rfl)) (fun _ _ _ h => h) (Or.inl ⟨by rfl, ?_⟩) ?_ ?_
                      rotate_left
                      · intro w'
                        go_simp
                        with_reducible rfl
                      rotate_left
                      · simp only [Act.put, List.setIfInBounds_toArray, List.set_cons_zero, List.set_cons_succ, i64_w, i32_w]
                        rfl
                      refine take_ (i := 15) (N := some 30) (v := ?_) (a' := ?_) #[true, true, true, true, true, true, true, true, true, true, true, true, true, true, true, true, false, false, false, false, false, false, false, false, false, false, false, false, false, false, false, false, false, false, false, false, false, false, false, false, false, false, false, false, false, false, false, false, false, false, false, false, false, false, false, false, false, false, false, false] rfl rfl (take_ofW HT_.out HW_.out (by kernel_rfl)) (fun _ _ _ h => h) (Or.inl ⟨by rfl, ?_⟩) hHeld ?_ ?_
                      rotate_left
                      · rintro w' ⟨s0, s1, s2, s3, s4, s5, s6, s7, s8⟩
                        go_simp
                        with_reducible rfl
                      rotate_left
                      · simp only [Act.put, List.setIfInBounds_toArray, List.set_cons_zero, List.set_cons_succ, i64_w, i32_w]
                        rfl
                      refine take_ (i := 16) (N := some 31) (v := ?_) (a' := ?_) #[true, true, true, true, true, true, true, true, true, true, true, true, true, true, true, true, true, false, false, false, false, false, false, false, false, false, false, false, false, false, false, false, false, false, false, false, false, false, false, false, false, false, false, false, false, false, false, false, false, false, false, false, false, false, false, false, false, false, false, false] rfl rfl (take_ofW HT_.out HW_.out (by kernel_rfl)) (fun _ _ _ h => h) (Or.inl ⟨by rfl, ?_⟩) hHeld ?_ ?_
                      rotate_left
                      · rintro w' ⟨s0, s1, s2, s3, s4, s5, s6, s7, s8⟩
                        go_simp
                        with_reducible rfl
                      rotate_left
                      · simp only [Act.put, List.setIfInBounds_toArray, List.set_cons_zero, List.set_cons_succ, i64_w, i32_w]
                        rfl
                      refine one_ (i := 17) (N := some 32) #[true, true, true, true, true, true, true, true, true, true, true, true, true, true, true, true, true, true, false, false, false, false, false, false, false, false, false, false, false, false, false, false, false, false, false, false, false, false, false, false, false, false, false, false, false, false, false, false, false, false, false, false, false, false, false, false, false, false, false, false] rfl rfl (one_of HT_.out (by kernel_rfl)) (by decide) (fun K hK => ?_)
                      refine goes_ Try.func11 (by kernel_rfl) rfl #[.agg #[.int .u32 2, .int .u32 2, .int .u32 5, .int .u32 5], .agg #[.int .u32 5, .int .u32 0, .int .u32 9, .int .u32 3]] (by rfl) rfl rfl (by (try simp only [List.map_toArray, List.map_cons, List.map_nil]); first | done | rfl | (simp only [List.length_drop, List.length_take]; rfl) | (simp; done)) ?_
                      with_reducible refine (rect_Meets.calls 2 2 5 5 5 0 9 3 true _ A7.out).mono ?_
                      rintro e w39 ⟨rfl, hb⟩
                      refine ⟨_, rfl, ?_⟩
                      have n0_ := Aside0.mk (blk_below (g := gb131) (o := .cells #[.int .u32 2, .int .u32 2, .int .u32 5, .int .u32 5] 24 (0, 0)) (by (with_reducible repeat (first | refine blk_drewN ?_ _ | refine blk_drew ?_ | refine blk_alloc ?_ _)); exact BK131.out) hb)
                      have n1_ := Aside0.mk (blk_below (g := gb132) (o := .cells #[.int .u32 5, .int .u32 0, .int .u32 9, .int .u32 3] 24 (0, 0)) (by (with_reducible repeat (first | refine blk_drewN ?_ _ | refine blk_drew ?_ | refine blk_alloc ?_ _)); exact BK132.out) hb)
                      have n2_ := Aside0.mk (blk_below (g := gb133) (o := .cells #[.int .i64 1] 3 (0, 0)) (by (with_reducible repeat (first | refine blk_drewN ?_ _ | refine blk_drew ?_ | refine blk_alloc ?_ _)); exact BK133.out) hb)
                      have n3_ := Aside0.mk (below_step (by repeat (first | (with_reducible first | exact HB.out | apply below_alloc | apply pw_below_drewN | apply below_drew1 | refine below_set ?_ GE131.out | refine below_set ?_ GE132.out | refine below_set ?_ GE133.out) | exact HB.out)) hb)
                      clear BK131
                      clear BK132
                      clear BK133
                      clear HB
                      have BK131 := n0_
                      have BK132 := n1_
                      have BK133 := n2_
                      have HB := n3_
                      clear n0_ n1_ n2_ n3_
                      (try clear hb)
                      (try clear hb2)
                      (try clear hk)
                      (try clear hi)
                      refine hK.out _ _ ⟨(blk_cell BK131.out 0).trans rfl, (blk_cell BK131.out 1).trans rfl, (blk_cell BK131.out 2).trans rfl, (blk_cell BK131.out 3).trans rfl, (blk_cell BK132.out 0).trans rfl, (blk_cell BK132.out 1).trans rfl, (blk_cell BK132.out 2).trans rfl, (blk_cell BK132.out 3).trans rfl, (blk_cell BK133.out 0).trans rfl⟩ (fun hHeld => ?_)
                      clear hK K
                      refine norm_ (a' := ?_) ?_ ?_
                      rotate_left
                      · show Act.put _ (some 32) _ = _
                        simp only [Act.put, List.setIfInBounds_toArray, List.set_cons_zero, List.set_cons_succ, i64_w, i32_w]
                        rfl
                      refine pure_ (i := 18) (N := some 33) (v := ?_) (a' := ?_) #[true, true, true, true, true, true, true, true, true, true, true, true, true, true, true, true, true, true, true, false, false, false, false, false, false, false, false, false, false, false, false, false, false, false, false, false, false, false, false, false, false, false, false, false, false, false, false, false, false, false, false, false, false, false, false, false, false, false, false, false] rfl rfl (any_of HT_.out (by kernel_rfl)) (fun _ _ _ h => h) (Or.inl ⟨by rfl, ?_⟩) ?_ ?_
                      rotate_left
                      · intro w'
                        go_simp
                        with_reducible rfl
                      rotate_left
                      · simp only [Act.put, List.setIfInBounds_toArray, List.set_cons_zero, List.set_cons_succ, i64_w, i32_w]
                        rfl
                      refine pure_ (i := 19) (N := some 34) (v := ?_) (a' := ?_) #[true, true, true, true, true, true, true, true, true, true, true, true, true, true, true, true, true, true, true, true, false, false, false, false, false, false, false, false, false, false, false, false, false, false, false, false, false, false, false, false, false, false, false, false, false, false, false, false, false, false, false, false, false, false, false, false, false, false, false, false] rfl rfl (any_of HT_.out (by kernel_rfl)) (fun _ _ _ h => h) (Or.inl ⟨by rfl, ?_⟩) ?_ ?_
                      rotate_left
                      · intro w'
                        go_simp
                        with_reducible rfl
                      rotate_left
                      · simp only [Act.put, List.setIfInBounds_toArray, List.set_cons_zero, List.set_cons_succ, i64_w, i32_w]
                        rfl
                      refine take_ (i := 20) (N := some 35) (v := ?_) (a' := ?_) #[true, true, true, true, true, true, true, true, true, true, true, true, true, true, true, true, true, true, true, true, true, false, false, false, false, false, false, false, false, false, false, false, false, false, false, false, false, false, false, false, false, false, false, false, false, false, false, false, false, false, false, false, false, false, false, false, false, false, false, false] rfl rfl (take_ofW HT_.out HW_.out (by kernel_rfl)) (fun _ _ _ h => h) (Or.inl ⟨by rfl, ?_⟩) hHeld ?_ ?_
                      rotate_left
                      · rintro w' ⟨s0, s1, s2, s3, s4, s5, s6, s7, s8⟩
                        go_simp
                        with_reducible rfl
                      rotate_left
                      · simp only [Act.put, List.setIfInBounds_toArray, List.set_cons_zero, List.set_cons_succ, i64_w, i32_w]
                        rfl
                      refine take_ (i := 21) (N := some 36) (v := ?_) (a' := ?_) #[true, true, true, true, true, true, true, true, true, true, true, true, true, true, true, true, true, true, true, true, true, true, false, false, false, false, false, false, false, false, false, false, false, false, false, false, false, false, false, false, false, false, false, false, false, false, false, false, false, false, false, false, false, false, false, false, false, false, false, false] rfl rfl (take_ofW HT_.out HW_.out (by kernel_rfl)) (fun _ _ _ h => h) (Or.inl ⟨by rfl, ?_⟩) hHeld ?_ ?_
                      rotate_left
                      · rintro w' ⟨s0, s1, s2, s3, s4, s5, s6, s7, s8⟩
                        go_simp
                        with_reducible rfl
                      rotate_left
                      · simp only [Act.put, List.setIfInBounds_toArray, List.set_cons_zero, List.set_cons_succ, i64_w, i32_w]
                        rfl
                      refine one_ (i := 22) (N := some 37) #[true, true, true, true, true, true, true, true, true, true, true, true, true, true, true, true, true, true, true, true, true, true, true, false, false, false, false, false, false, false, false, false, false, false, false, false, false, false, false, false, false, false, false, false, false, false, false, false, false, false, false, false, false, false, false, false, false, false, false, false] rfl rfl (one_of HT_.out (by kernel_rfl)) (by decide) (fun K hK => ?_)
                      refine goes_ Try.func12 (by kernel_rfl) rfl #[.agg #[.int .u32 2, .int .u32 2, .int .u32 5, .int .u32 5], .agg #[.int .u32 5, .int .u32 0, .int .u32 9, .int .u32 3]] (by rfl) rfl rfl (by (try simp only [List.map_toArray, List.map_cons, List.map_nil]); first | done | rfl | (simp only [List.length_drop, List.length_take]; rfl) | (simp; done)) ?_
                      with_reducible refine (rect_Within.calls 2 2 5 5 5 0 9 3 false _ A9.out).mono ?_
                      rintro e w40 ⟨rfl, hb⟩
                      refine ⟨_, rfl, ?_⟩
                      have n0_ := Aside0.mk (blk_below (g := gb131) (o := .cells #[.int .u32 2, .int .u32 2, .int .u32 5, .int .u32 5] 24 (0, 0)) (by (with_reducible repeat (first | refine blk_drewN ?_ _ | refine blk_drew ?_ | refine blk_alloc ?_ _)); exact BK131.out) hb)
                      have n1_ := Aside0.mk (blk_below (g := gb132) (o := .cells #[.int .u32 5, .int .u32 0, .int .u32 9, .int .u32 3] 24 (0, 0)) (by (with_reducible repeat (first | refine blk_drewN ?_ _ | refine blk_drew ?_ | refine blk_alloc ?_ _)); exact BK132.out) hb)
                      have n2_ := Aside0.mk (blk_below (g := gb133) (o := .cells #[.int .i64 1] 3 (0, 0)) (by (with_reducible repeat (first | refine blk_drewN ?_ _ | refine blk_drew ?_ | refine blk_alloc ?_ _)); exact BK133.out) hb)
                      have n3_ := Aside0.mk (below_step (by repeat (first | (with_reducible first | exact HB.out | apply below_alloc | apply pw_below_drewN | apply below_drew1 | refine below_set ?_ GE131.out | refine below_set ?_ GE132.out | refine below_set ?_ GE133.out) | exact HB.out)) hb)
                      clear BK131
                      clear BK132
                      clear BK133
                      clear HB
                      have BK131 := n0_
                      have BK132 := n1_
                      have BK133 := n2_
                      have HB := n3_
                      clear n0_ n1_ n2_ n3_
                      (try clear hb)
                      (try clear hb2)
                      (try clear hk)
                      (try clear hi)
                      refine hK.out _ _ ⟨(blk_cell BK131.out 0).trans rfl, (blk_cell BK131.out 1).trans rfl, (blk_cell BK131.out 2).trans rfl, (blk_cell BK131.out 3).trans rfl, (blk_cell BK132.out 0).trans rfl, (blk_cell BK132.out 1).trans rfl, (blk_cell BK132.out 2).trans rfl, (blk_cell BK132.out 3).trans rfl, (blk_cell BK133.out 0).trans rfl⟩ (fun hHeld => ?_)
                      clear hK K
                      refine norm_ (a' := ?_) ?_ ?_
                      rotate_left
                      · show Act.put _ (some 37) _ = _
                        simp only [Act.put, List.setIfInBounds_toArray, List.set_cons_zero, List.set_cons_succ, i64_w, i32_w]
                        rfl
                      refine pure_ (i := 23) (N := some 38) (v := ?_) (a' := ?_) #[true, true, true, true, true, true, true, true, true, true, true, true, true, true, true, true, true, true, true, true, true, true, true, true, false, false, false, false, false, false, false, false, false, false, false, false, false, false, false, false, false, false, false, false, false, false, false, false, false, false, false, false, false, false, false, false, false, false, false, false] rfl rfl (any_of HT_.out (by kernel_rfl)) (fun _ _ _ h => h) (Or.inl ⟨by rfl, ?_⟩) ?_ ?_
                      rotate_left
                      · intro w'
                        go_simp
                        with_reducible rfl
                      rotate_left
                      · simp only [Act.put, List.setIfInBounds_toArray, List.set_cons_zero, List.set_cons_succ, i64_w, i32_w]
                        rfl
                      refine pure_ (i := 24) (N := some 39) (v := ?_) (a' := ?_) #[true, true, true, true, true, true, true, true, true, true, true, true, true, true, true, true, true, true, true, true, true, true, true, true, true, false, false, false, false, false, false, false, false, false, false, false, false, false, false, false, false, false, false, false, false, false, false, false, false, false, false, false, false, false, false, false, false, false, false, false] rfl rfl (any_of HT_.out (by kernel_rfl)) (fun _ _ _ h => h) (Or.inl ⟨by rfl, ?_⟩) ?_ ?_
                      rotate_left
                      · intro w'
                        go_simp
                        with_reducible rfl
                      rotate_left
                      · simp only [Act.put, List.setIfInBounds_toArray, List.set_cons_zero, List.set_cons_succ, i64_w, i32_w]
                        rfl
                      refine pure_ (i := 25) (N := some 40) (v := ?_) (a' := ?_) #[true, true, true, true, true, true, true, true, true, true, true, true, true, true, true, true, true, true, true, true, true, true, true, true, true, true, false, false, false, false, false, false, false, false, false, false, false, false, false, false, false, false, false, false, false, false, false, false, false, false, false, false, false, false, false, false, false, false, false, false] rfl rfl (any_of HT_.out (by kernel_rfl)) (fun _ _ _ h => h) (Or.inl ⟨by rfl, ?_⟩) ?_ ?_
                      rotate_left
                      · intro w'
                        go_simp
                        with_reducible rfl
                      rotate_left
                      · simp only [Act.put, List.setIfInBounds_toArray, List.set_cons_zero, List.set_cons_succ, i64_w, i32_w]
                        rfl
                      refine take_ (i := 26) (N := some 41) (v := ?_) (a' := ?_) #[true, true, true, true, true, true, true, true, true, true, true, true, true, true, true, true, true, true, true, true, true, true, true, true, true, true, true, false, false, false, false, false, false, false, false, false, false, false, false, false, false, false, false, false, false, false, false, false, false, false, false, false, false, false, false, false, false, false, false, false] rfl rfl (take_ofW HT_.out HW_.out (by kernel_rfl)) (fun _ _ _ h => h) (Or.inl ⟨by rfl, ?_⟩) hHeld ?_ ?_
                      rotate_left
                      · rintro w' ⟨s0, s1, s2, s3, s4, s5, s6, s7, s8⟩
                        go_simp
                        with_reducible rfl
                      rotate_left
                      · simp only [Act.put, List.setIfInBounds_toArray, List.set_cons_zero, List.set_cons_succ, i64_w, i32_w]
                        rfl
                      refine one_ (i := 27) (N := some 42) #[true, true, true, true, true, true, true, true, true, true, true, true, true, true, true, true, true, true, true, true, true, true, true, true, true, true, true, true, false, false, false, false, false, false, false, false, false, false, false, false, false, false, false, false, false, false, false, false, false, false, false, false, false, false, false, false, false, false, false, false] rfl rfl (one_of HT_.out (by kernel_rfl)) (by decide) (fun K hK => ?_)
                      refine goes_ Try.func13 (by kernel_rfl) rfl #[] (by rfl) rfl rfl (by (try simp only [List.map_toArray, List.map_cons, List.map_nil]); first | done | rfl | (simp only [List.length_drop, List.length_take]; rfl) | (simp; done)) ?_
                      with_reducible refine (rect_All.calls  t142 t143 t144 t145 _ A11.out).mono ?_
                      rintro e w41 ⟨rfl, hb⟩
                      refine ⟨_, rfl, ?_⟩
                      have n0_ := Aside0.mk (blk_below (g := gb131) (o := .cells #[.int .u32 2, .int .u32 2, .int .u32 5, .int .u32 5] 24 (0, 0)) (by (with_reducible repeat (first | refine blk_drewN ?_ _ | refine blk_drew ?_ | refine blk_alloc ?_ _)); exact BK131.out) hb)
                      have n1_ := Aside0.mk (blk_below (g := gb132) (o := .cells #[.int .u32 5, .int .u32 0, .int .u32 9, .int .u32 3] 24 (0, 0)) (by (with_reducible repeat (first | refine blk_drewN ?_ _ | refine blk_drew ?_ | refine blk_alloc ?_ _)); exact BK132.out) hb)
                      have n2_ := Aside0.mk (blk_below (g := gb133) (o := .cells #[.int .i64 1] 3 (0, 0)) (by (with_reducible repeat (first | refine blk_drewN ?_ _ | refine blk_drew ?_ | refine blk_alloc ?_ _)); exact BK133.out) hb)
                      have n3_ := Aside0.mk (below_step (by repeat (first | (with_reducible first | exact HB.out | apply below_alloc | apply pw_below_drewN | apply below_drew1 | refine below_set ?_ GE131.out | refine below_set ?_ GE132.out | refine below_set ?_ GE133.out) | exact HB.out)) hb)
                      clear BK131
                      clear BK132
                      clear BK133
                      clear HB
                      have BK131 := n0_
                      have BK132 := n1_
                      have BK133 := n2_
                      have HB := n3_
                      clear n0_ n1_ n2_ n3_
                      (try clear hb)
                      (try clear hb2)
                      (try clear hk)
                      (try clear hi)
                      refine hK.out _ _ ⟨(blk_cell BK131.out 0).trans rfl, (blk_cell BK131.out 1).trans rfl, (blk_cell BK131.out 2).trans rfl, (blk_cell BK131.out 3).trans rfl, (blk_cell BK132.out 0).trans rfl, (blk_cell BK132.out 1).trans rfl, (blk_cell BK132.out 2).trans rfl, (blk_cell BK132.out 3).trans rfl, (blk_cell BK133.out 0).trans rfl⟩ (fun hHeld => ?_)
                      clear hK K
                      refine norm_ (a' := ?_) ?_ ?_
                      rotate_left
                      · show Act.put _ (some 42) _ = _
                        simp only [Act.put, List.setIfInBounds_toArray, List.set_cons_zero, List.set_cons_succ, i64_w, i32_w]
                        rfl
                      refine one_ (i := 28) (N := some 43) #[true, true, true, true, true, true, true, true, true, true, true, true, true, true, true, true, true, true, true, true, true, true, true, true, true, true, true, true, true, false, false, false, false, false, false, false, false, false, false, false, false, false, false, false, false, false, false, false, false, false, false, false, false, false, false, false, false, false, false, false] rfl rfl (one_of HT_.out (by kernel_rfl)) (by decide) (fun K hK => ?_)
                      refine goes_ Try.func12 (by kernel_rfl) rfl #[.agg #[.int .u32 2, .int .u32 2, .int .u32 5, .int .u32 5], .agg #[.int .u32 t142, .int .u32 t143, .int .u32 t144, .int .u32 t145]] (by rfl) rfl rfl (by (try simp only [List.map_toArray, List.map_cons, List.map_nil]); first | done | rfl | (simp only [List.length_drop, List.length_take]; rfl) | (simp; done)) ?_
                      with_reducible refine (rect_Within.calls 2 2 5 5 t142 t143 t144 t145 true _ A12.out).mono ?_
                      rintro e w42 ⟨rfl, hb⟩
                      refine ⟨_, rfl, ?_⟩
                      have n0_ := Aside0.mk (blk_below (g := gb131) (o := .cells #[.int .u32 2, .int .u32 2, .int .u32 5, .int .u32 5] 24 (0, 0)) (by (with_reducible repeat (first | refine blk_drewN ?_ _ | refine blk_drew ?_ | refine blk_alloc ?_ _)); exact BK131.out) hb)
                      have n1_ := Aside0.mk (blk_below (g := gb132) (o := .cells #[.int .u32 5, .int .u32 0, .int .u32 9, .int .u32 3] 24 (0, 0)) (by (with_reducible repeat (first | refine blk_drewN ?_ _ | refine blk_drew ?_ | refine blk_alloc ?_ _)); exact BK132.out) hb)
                      have n2_ := Aside0.mk (blk_below (g := gb133) (o := .cells #[.int .i64 1] 3 (0, 0)) (by (with_reducible repeat (first | refine blk_drewN ?_ _ | refine blk_drew ?_ | refine blk_alloc ?_ _)); exact BK133.out) hb)
                      have n3_ := Aside0.mk (below_step (by repeat (first | (with_reducible first | exact HB.out | apply below_alloc | apply pw_below_drewN | apply below_drew1 | refine below_set ?_ GE131.out | refine below_set ?_ GE132.out | refine below_set ?_ GE133.out) | exact HB.out)) hb)
                      clear BK131
                      clear BK132
                      clear BK133
                      clear HB
                      have BK131 := n0_
                      have BK132 := n1_
                      have BK133 := n2_
                      have HB := n3_
                      clear n0_ n1_ n2_ n3_
                      (try clear hb)
                      (try clear hb2)
                      (try clear hk)
                      (try clear hi)
                      refine hK.out _ _ ⟨(blk_cell BK131.out 0).trans rfl, (blk_cell BK131.out 1).trans rfl, (blk_cell BK131.out 2).trans rfl, (blk_cell BK131.out 3).trans rfl, (blk_cell BK132.out 0).trans rfl, (blk_cell BK132.out 1).trans rfl, (blk_cell BK132.out 2).trans rfl, (blk_cell BK132.out 3).trans rfl, (blk_cell BK133.out 0).trans rfl⟩ (fun hHeld => ?_)
                      clear hK K
                      refine norm_ (a' := ?_) ?_ ?_
                      rotate_left
                      · show Act.put _ (some 43) _ = _
                        simp only [Act.put, List.setIfInBounds_toArray, List.set_cons_zero, List.set_cons_succ, i64_w, i32_w]
                        rfl
                      refine pure_ (i := 29) (N := some 44) (v := ?_) (a' := ?_) #[true, true, true, true, true, true, true, true, true, true, true, true, true, true, true, true, true, true, true, true, true, true, true, true, true, true, true, true, true, true, false, false, false, false, false, false, false, false, false, false, false, false, false, false, false, false, false, false, false, false, false, false, false, false, false, false, false, false, false, false] rfl rfl (any_of HT_.out (by kernel_rfl)) (fun _ _ _ h => h) (Or.inl ⟨by rfl, ?_⟩) ?_ ?_
                      rotate_left
                      · intro w'
                        go_simp
                        with_reducible rfl
                      rotate_left
                      · simp only [Act.put, List.setIfInBounds_toArray, List.set_cons_zero, List.set_cons_succ, i64_w, i32_w]
                        rfl
                      refine pure_ (i := 30) (N := some 45) (v := ?_) (a' := ?_) #[true, true, true, true, true, true, true, true, true, true, true, true, true, true, true, true, true, true, true, true, true, true, true, true, true, true, true, true, true, true, true, false, false, false, false, false, false, false, false, false, false, false, false, false, false, false, false, false, false, false, false, false, false, false, false, false, false, false, false, false] rfl rfl (any_of HT_.out (by kernel_rfl)) (fun _ _ _ h => h) (Or.inl ⟨by rfl, ?_⟩) ?_ ?_
                      rotate_left
                      · intro w'
                        go_simp
                        with_reducible rfl
                      rotate_left
                      · simp only [Act.put, List.setIfInBounds_toArray, List.set_cons_zero, List.set_cons_succ, i64_w, i32_w]
                        rfl
                      refine one_ (i := 31) (N := some 46) #[true, true, true, true, true, true, true, true, true, true, true, true, true, true, true, true, true, true, true, true, true, true, true, true, true, true, true, true, true, true, true, true, false, false, false, false, false, false, false, false, false, false, false, false, false, false, false, false, false, false, false, false, false, false, false, false, false, false, false, false] rfl rfl (one_of HT_.out (by kernel_rfl)) (by decide) (fun K hK => ?_)
                      refine goes_ Try.func15 (by kernel_rfl) rfl #[.int .u32 536870912, .int .u32 1073741824] (by rfl) rfl rfl (by (try simp only [List.map_toArray, List.map_cons, List.map_nil]); first | done | rfl | (simp only [List.length_drop, List.length_take]; rfl) | (simp; done)) ?_
                      with_reducible refine (rect_Tile.calls 536870912 1073741824 t147 _ A14.out).mono ?_
                      rintro e w' ⟨rfl, ⟨nd, rfl⟩⟩
                      refine ⟨_, rfl, ?_⟩
                      refine hK.out _ _ ⟨(blk_cell BK131.out 0).trans rfl, (blk_cell BK131.out 1).trans rfl, (blk_cell BK131.out 2).trans rfl, (blk_cell BK131.out 3).trans rfl, (blk_cell BK132.out 0).trans rfl, (blk_cell BK132.out 1).trans rfl, (blk_cell BK132.out 2).trans rfl, (blk_cell BK132.out 3).trans rfl, (blk_cell BK133.out 0).trans rfl⟩ (fun hHeld => ?_)
                      clear hK K
                      refine norm_ (a' := ?_) ?_ ?_
                      rotate_left
                      · show Act.put _ (some 46) _ = _
                        simp only [Act.put, List.setIfInBounds_toArray, List.set_cons_zero, List.set_cons_succ, i64_w, i32_w]
                        rfl
                      refine pure_ (i := 32) (N := some 47) (v := ?_) (a' := ?_) #[true, true, true, true, true, true, true, true, true, true, true, true, true, true, true, true, true, true, true, true, true, true, true, true, true, true, true, true, true, true, true, true, true, false, false, false, false, false, false, false, false, false, false, false, false, false, false, false, false, false, false, false, false, false, false, false, false, false, false, false] rfl rfl (any_of HT_.out (by kernel_rfl)) (fun _ _ _ h => h) (Or.inl ⟨by rfl, ?_⟩) ?_ ?_
                      rotate_left
                      · intro w'
                        go_simp
                        with_reducible rfl
                      rotate_left
                      · simp only [Act.put, List.setIfInBounds_toArray, List.set_cons_zero, List.set_cons_succ, i64_w, i32_w]
                        rfl
                      refine pure_ (i := 33) (N := some 48) (v := ?_) (a' := ?_) #[true, true, true, true, true, true, true, true, true, true, true, true, true, true, true, true, true, true, true, true, true, true, true, true, true, true, true, true, true, true, true, true, true, true, false, false, false, false, false, false, false, false, false, false, false, false, false, false, false, false, false, false, false, false, false, false, false, false, false, false] rfl rfl (any_of HT_.out (by kernel_rfl)) (fun _ _ _ h => h) (Or.inl ⟨by rfl, ?_⟩) ?_ ?_
                      rotate_left
                      · intro w'
                        go_simp
                        with_reducible rfl
                      rotate_left
                      · simp only [Act.put, List.setIfInBounds_toArray, List.set_cons_zero, List.set_cons_succ, i64_w, i32_w]
                        rfl
                      refine pure_ (i := 34) (N := some 49) (v := ?_) (a' := ?_) #[true, true, true, true, true, true, true, true, true, true, true, true, true, true, true, true, true, true, true, true, true, true, true, true, true, true, true, true, true, true, true, true, true, true, true, false, false, false, false, false, false, false, false, false, false, false, false, false, false, false, false, false, false, false, false, false, false, false, false, false] rfl rfl (any_of HT_.out (by kernel_rfl)) (fun _ _ _ h => h) (Or.inl ⟨by rfl, ?_⟩) ?_ ?_
                      rotate_left
                      · intro w'
                        go_simp
                        with_reducible rfl
                      rotate_left
                      · simp only [Act.put, List.setIfInBounds_toArray, List.set_cons_zero, List.set_cons_succ, i64_w, i32_w]
                        rfl
                      refine pure_ (i := 36) (N := some 51) (v := ?_) (a' := ?_) #[true, true, true, true, true, true, true, true, true, true, true, true, true, true, true, true, true, true, true, true, true, true, true, true, true, true, true, true, true, true, true, true, true, true, true, false, true, false, false, false, false, false, false, false, false, false, false, false, false, false, false, false, false, false, false, false, false, false, false, false] rfl rfl (any_of HT_.out (by kernel_rfl)) (fun _ _ _ h => h) (Or.inl ⟨by rfl, ?_⟩) ?_ ?_
                      rotate_left
                      · intro w'
                        go_simp
                        with_reducible rfl
                      rotate_left
                      · simp only [Act.put, List.setIfInBounds_toArray, List.set_cons_zero, List.set_cons_succ, i64_w, i32_w]
                        rfl
                      refine one_ (i := 35) (N := some 50) #[true, true, true, true, true, true, true, true, true, true, true, true, true, true, true, true, true, true, true, true, true, true, true, true, true, true, true, true, true, true, true, true, true, true, true, true, true, false, false, false, false, false, false, false, false, false, false, false, false, false, false, false, false, false, false, false, false, false, false, false] rfl rfl (one_of HT_.out (by kernel_rfl)) (by decide) (fun K hK => ?_)
                      refine goes_ Try.func17 (by kernel_rfl) rfl #[.int .i64 17] (by rfl) rfl rfl (by (try simp only [List.map_toArray, List.map_cons, List.map_nil]); first | done | rfl | (simp only [List.length_drop, List.length_take]; rfl) | (simp; done)) ?_
                      with_reducible refine (rect_Of.calls 17 t148 t149 t150 t151 _ A16.out).mono ?_
                      rintro e w43 ⟨rfl, hb⟩
                      refine ⟨_, rfl, ?_⟩
                      have n0_ := Aside0.mk (blk_below (g := gb131) (o := .cells #[.int .u32 2, .int .u32 2, .int .u32 5, .int .u32 5] 24 (0, 0)) (by (with_reducible repeat (first | refine blk_drewN ?_ _ | refine blk_drew ?_ | refine blk_alloc ?_ _)); exact BK131.out) hb)
                      have n1_ := Aside0.mk (blk_below (g := gb132) (o := .cells #[.int .u32 5, .int .u32 0, .int .u32 9, .int .u32 3] 24 (0, 0)) (by (with_reducible repeat (first | refine blk_drewN ?_ _ | refine blk_drew ?_ | refine blk_alloc ?_ _)); exact BK132.out) hb)
                      have n2_ := Aside0.mk (blk_below (g := gb133) (o := .cells #[.int .i64 1] 3 (0, 0)) (by (with_reducible repeat (first | refine blk_drewN ?_ _ | refine blk_drew ?_ | refine blk_alloc ?_ _)); exact BK133.out) hb)
                      have n3_ := Aside0.mk (below_step (by repeat (first | (with_reducible first | exact HB.out | apply below_alloc | apply pw_below_drewN | apply below_drew1 | refine below_set ?_ GE131.out | refine below_set ?_ GE132.out | refine below_set ?_ GE133.out) | exact HB.out)) hb)
                      clear BK131
                      clear BK132
                      clear BK133
                      clear HB
                      have BK131 := n0_
                      have BK132 := n1_
                      have BK133 := n2_
                      have HB := n3_
                      clear n0_ n1_ n2_ n3_
                      (try clear hb)
                      (try clear hb2)
                      (try clear hk)
                      (try clear hi)
                      refine hK.out _ _ ⟨(blk_cell BK131.out 0).trans rfl, (blk_cell BK131.out 1).trans rfl, (blk_cell BK131.out 2).trans rfl, (blk_cell BK131.out 3).trans rfl, (blk_cell BK132.out 0).trans rfl, (blk_cell BK132.out 1).trans rfl, (blk_cell BK132.out 2).trans rfl, (blk_cell BK132.out 3).trans rfl, (blk_cell BK133.out 0).trans rfl⟩ (fun hHeld => ?_)
                      clear hK K
                      refine norm_ (a' := ?_) ?_ ?_
                      rotate_left
                      · show Act.put _ (some 50) _ = _
                        simp only [Act.put, List.setIfInBounds_toArray, List.set_cons_zero, List.set_cons_succ, i64_w, i32_w]
                        rfl
                      refine pure_ (i := 37) (N := some 52) (v := ?_) (a' := ?_) #[true, true, true, true, true, true, true, true, true, true, true, true, true, true, true, true, true, true, true, true, true, true, true, true, true, true, true, true, true, true, true, true, true, true, true, true, true, true, false, false, false, false, false, false, false, false, false, false, false, false, false, false, false, false, false, false, false, false, false, false] rfl rfl (any_of HT_.out (by kernel_rfl)) (fun _ _ _ h => h) (Or.inl ⟨by rfl, ?_⟩) ?_ ?_
                      rotate_left
                      · intro w'
                        go_simp
                        with_reducible rfl
                      rotate_left
                      · simp only [Act.put, List.setIfInBounds_toArray, List.set_cons_zero, List.set_cons_succ, i64_w, i32_w]
                        rfl
                      refine pure_ (i := 38) (N := some 53) (v := ?_) (a' := ?_) #[true, true, true, true, true, true, true, true, true, true, true, true, true, true, true, true, true, true, true, true, true, true, true, true, true, true, true, true, true, true, true, true, true, true, true, true, true, true, true, false, false, false, false, false, false, false, false, false, false, false, false, false, false, false, false, false, false, false, false, false] rfl rfl (any_of HT_.out (by kernel_rfl)) (fun _ _ _ h => h) (Or.inl ⟨by rfl, ?_⟩) ?_ ?_
                      rotate_left
                      · intro w'
                        go_simp
                        with_reducible rfl
                      rotate_left
                      · simp only [Act.put, List.setIfInBounds_toArray, List.set_cons_zero, List.set_cons_succ, i64_w, i32_w]
                        rfl
                      refine pure_ (i := 39) (N := some 54) (v := ?_) (a' := ?_) #[true, true, true, true, true, true, true, true, true, true, true, true, true, true, true, true, true, true, true, true, true, true, true, true, true, true, true, true, true, true, true, true, true, true, true, true, true, true, true, true, false, false, false, false, false, false, false, false, false, false, false, false, false, false, false, false, false, false, false, false] rfl rfl (any_of HT_.out (by kernel_rfl)) (fun _ _ _ h => h) (Or.inl ⟨by rfl, ?_⟩) ?_ ?_
                      rotate_left
                      · intro w'
                        go_simp
                        with_reducible rfl
                      rotate_left
                      · simp only [Act.put, List.setIfInBounds_toArray, List.set_cons_zero, List.set_cons_succ, i64_w, i32_w]
                        rfl
                      refine take_ (i := 40) (N := some 55) (v := ?_) (a' := ?_) #[true, true, true, true, true, true, true, true, true, true, true, true, true, true, true, true, true, true, true, true, true, true, true, true, true, true, true, true, true, true, true, true, true, true, true, true, true, true, true, true, true, false, false, false, false, false, false, false, false, false, false, false, false, false, false, false, false, false, false, false] rfl rfl (take_ofW HT_.out HW_.out (by kernel_rfl)) (fun _ _ _ h => h) (Or.inl ⟨by rfl, ?_⟩) hHeld ?_ ?_
                      rotate_left
                      · rintro w' ⟨s0, s1, s2, s3, s4, s5, s6, s7, s8⟩
                        go_simp
                        with_reducible rfl
                      rotate_left
                      · simp only [Act.put, List.setIfInBounds_toArray, List.set_cons_zero, List.set_cons_succ, i64_w, i32_w]
                        rfl
                      refine pure_ (i := 41) (N := some 56) (v := ?_) (a' := ?_) #[true, true, true, true, true, true, true, true, true, true, true, true, true, true, true, true, true, true, true, true, true, true, true, true, true, true, true, true, true, true, true, true, true, true, true, true, true, true, true, true, true, true, false, false, false, false, false, false, false, false, false, false, false, false, false, false, false, false, false, false] rfl rfl (any_of HT_.out (by kernel_rfl)) (fun _ _ _ h => h) (Or.inl ⟨by rfl, ?_⟩) ?_ ?_
                      rotate_left
                      · intro w'
                        go_simp
                        with_reducible rfl
                      rotate_left
                      · simp only [Act.put, List.setIfInBounds_toArray, List.set_cons_zero, List.set_cons_succ, i64_w, i32_w]
                        rfl
                      refine pure_ (i := 42) (N := some 57) (v := ?_) (a' := ?_) #[true, true, true, true, true, true, true, true, true, true, true, true, true, true, true, true, true, true, true, true, true, true, true, true, true, true, true, true, true, true, true, true, true, true, true, true, true, true, true, true, true, true, true, false, false, false, false, false, false, false, false, false, false, false, false, false, false, false, false, false] rfl rfl (any_of HT_.out (by kernel_rfl)) (fun _ _ _ h => h) (Or.inl ⟨by rfl, ?_⟩) ?_ ?_
                      rotate_left
                      · intro w'
                        go_simp
                        with_reducible rfl
                      rotate_left
                      · simp only [Act.put, List.setIfInBounds_toArray, List.set_cons_zero, List.set_cons_succ, i64_w, i32_w]
                        rfl
                      refine pure_ (i := 43) (N := some 58) (v := ?_) (a' := ?_) #[true, true, true, true, true, true, true, true, true, true, true, true, true, true, true, true, true, true, true, true, true, true, true, true, true, true, true, true, true, true, true, true, true, true, true, true, true, true, true, true, true, true, true, true, false, false, false, false, false, false, false, false, false, false, false, false, false, false, false, false] rfl rfl (any_of HT_.out (by kernel_rfl)) (fun _ _ _ h => h) (Or.inl ⟨by rfl, ?_⟩) ?_ ?_
                      rotate_left
                      · intro w'
                        go_simp
                        with_reducible rfl
                      rotate_left
                      · simp only [Act.put, List.setIfInBounds_toArray, List.set_cons_zero, List.set_cons_succ, i64_w, i32_w]
                        rfl
                      refine one_ (i := 44) (N := some 59) #[true, true, true, true, true, true, true, true, true, true, true, true, true, true, true, true, true, true, true, true, true, true, true, true, true, true, true, true, true, true, true, true, true, true, true, true, true, true, true, true, true, true, true, true, true, false, false, false, false, false, false, false, false, false, false, false, false, false, false, false] rfl rfl (one_of HT_.out (by kernel_rfl)) (by decide) (fun K hK => ?_)
                      refine goes_ Try.func13 (by kernel_rfl) rfl #[] (by rfl) rfl rfl (by (try simp only [List.map_toArray, List.map_cons, List.map_nil]); first | done | rfl | (simp only [List.length_drop, List.length_take]; rfl) | (simp; done)) ?_
                      with_reducible refine (rect_All.calls  t152 t153 t154 t155 _ A18.out).mono ?_
                      rintro e w44 ⟨rfl, hb⟩
                      refine ⟨_, rfl, ?_⟩
                      have n0_ := Aside0.mk (blk_below (g := gb131) (o := .cells #[.int .u32 2, .int .u32 2, .int .u32 5, .int .u32 5] 24 (0, 0)) (by (with_reducible repeat (first | refine blk_drewN ?_ _ | refine blk_drew ?_ | refine blk_alloc ?_ _)); exact BK131.out) hb)
                      have n1_ := Aside0.mk (blk_below (g := gb132) (o := .cells #[.int .u32 5, .int .u32 0, .int .u32 9, .int .u32 3] 24 (0, 0)) (by (with_reducible repeat (first | refine blk_drewN ?_ _ | refine blk_drew ?_ | refine blk_alloc ?_ _)); exact BK132.out) hb)
                      have n2_ := Aside0.mk (blk_below (g := gb133) (o := .cells #[.int .i64 1] 3 (0, 0)) (by (with_reducible repeat (first | refine blk_drewN ?_ _ | refine blk_drew ?_ | refine blk_alloc ?_ _)); exact BK133.out) hb)
                      have n3_ := Aside0.mk (below_step (by repeat (first | (with_reducible first | exact HB.out | apply below_alloc | apply pw_below_drewN | apply below_drew1 | refine below_set ?_ GE131.out | refine below_set ?_ GE132.out | refine below_set ?_ GE133.out) | exact HB.out)) hb)
                      clear BK131
                      clear BK132
                      clear BK133
                      clear HB
                      have BK131 := n0_
                      have BK132 := n1_
                      have BK133 := n2_
                      have HB := n3_
                      clear n0_ n1_ n2_ n3_
                      (try clear hb)
                      (try clear hb2)
                      (try clear hk)
                      (try clear hi)
                      refine hK.out _ _ ⟨(blk_cell BK131.out 0).trans rfl, (blk_cell BK131.out 1).trans rfl, (blk_cell BK131.out 2).trans rfl, (blk_cell BK131.out 3).trans rfl, (blk_cell BK132.out 0).trans rfl, (blk_cell BK132.out 1).trans rfl, (blk_cell BK132.out 2).trans rfl, (blk_cell BK132.out 3).trans rfl, (blk_cell BK133.out 0).trans rfl⟩ (fun hHeld => ?_)
                      clear hK K
                      refine norm_ (a' := ?_) ?_ ?_
                      rotate_left
                      · show Act.put _ (some 59) _ = _
                        simp only [Act.put, List.setIfInBounds_toArray, List.set_cons_zero, List.set_cons_succ, i64_w, i32_w]
                        rfl
                      refine one_ (i := 45) (N := some 60) #[true, true, true, true, true, true, true, true, true, true, true, true, true, true, true, true, true, true, true, true, true, true, true, true, true, true, true, true, true, true, true, true, true, true, true, true, true, true, true, true, true, true, true, true, true, true, false, false, false, false, false, false, false, false, false, false, false, false, false, false] rfl rfl (one_of HT_.out (by kernel_rfl)) (by decide) (fun K hK => ?_)
                      refine goes_ Try.func20 (by kernel_rfl) rfl #[.agg #[.int .u32 t152, .int .u32 t153, .int .u32 t154, .int .u32 t155]] (by rfl) rfl rfl (by (try simp only [List.map_toArray, List.map_cons, List.map_nil]); first | done | rfl | (simp only [List.length_drop, List.length_take]; rfl) | (simp; done)) ?_
                      with_reducible refine (rect_Count.calls t152 t153 t154 t155 t156 _ A19.out).mono ?_
                      rintro e w45 ⟨rfl, hb⟩
                      refine ⟨_, rfl, ?_⟩
                      have n0_ := Aside0.mk (blk_below (g := gb131) (o := .cells #[.int .u32 2, .int .u32 2, .int .u32 5, .int .u32 5] 24 (0, 0)) (by (with_reducible repeat (first | refine blk_drewN ?_ _ | refine blk_drew ?_ | refine blk_alloc ?_ _)); exact BK131.out) hb)
                      have n1_ := Aside0.mk (blk_below (g := gb132) (o := .cells #[.int .u32 5, .int .u32 0, .int .u32 9, .int .u32 3] 24 (0, 0)) (by (with_reducible repeat (first | refine blk_drewN ?_ _ | refine blk_drew ?_ | refine blk_alloc ?_ _)); exact BK132.out) hb)
                      have n2_ := Aside0.mk (blk_below (g := gb133) (o := .cells #[.int .i64 1] 3 (0, 0)) (by (with_reducible repeat (first | refine blk_drewN ?_ _ | refine blk_drew ?_ | refine blk_alloc ?_ _)); exact BK133.out) hb)
                      have n3_ := Aside0.mk (below_step (by repeat (first | (with_reducible first | exact HB.out | apply below_alloc | apply pw_below_drewN | apply below_drew1 | refine below_set ?_ GE131.out | refine below_set ?_ GE132.out | refine below_set ?_ GE133.out) | exact HB.out)) hb)
                      clear BK131
                      clear BK132
                      clear BK133
                      clear HB
                      have BK131 := n0_
                      have BK132 := n1_
                      have BK133 := n2_
                      have HB := n3_
                      clear n0_ n1_ n2_ n3_
                      (try clear hb)
                      (try clear hb2)
                      (try clear hk)
                      (try clear hi)
                      refine hK.out _ _ ⟨(blk_cell BK131.out 0).trans rfl, (blk_cell BK131.out 1).trans rfl, (blk_cell BK131.out 2).trans rfl, (blk_cell BK131.out 3).trans rfl, (blk_cell BK132.out 0).trans rfl, (blk_cell BK132.out 1).trans rfl, (blk_cell BK132.out 2).trans rfl, (blk_cell BK132.out 3).trans rfl, (blk_cell BK133.out 0).trans rfl⟩ (fun hHeld => ?_)
                      clear hK K
                      refine norm_ (a' := ?_) ?_ ?_
                      rotate_left
                      · show Act.put _ (some 60) _ = _
                        simp only [Act.put, List.setIfInBounds_toArray, List.set_cons_zero, List.set_cons_succ, i64_w, i32_w]
                        rfl
                      refine pure_ (i := 46) (N := some 61) (v := ?_) (a' := ?_) #[true, true, true, true, true, true, true, true, true, true, true, true, true, true, true, true, true, true, true, true, true, true, true, true, true, true, true, true, true, true, true, true, true, true, true, true, true, true, true, true, true, true, true, true, true, true, true, false, false, false, false, false, false, false, false, false, false, false, false, false] rfl rfl (any_of HT_.out (by kernel_rfl)) (fun _ _ _ h => h) (Or.inl ⟨by rfl, ?_⟩) ?_ ?_
                      rotate_left
                      · intro w'
                        go_simp
                        with_reducible rfl
                      rotate_left
                      · simp only [Act.put, List.setIfInBounds_toArray, List.set_cons_zero, List.set_cons_succ, i64_w, i32_w]
                        rfl
                      refine pure_ (i := 47) (N := some 62) (v := ?_) (a' := ?_) #[true, true, true, true, true, true, true, true, true, true, true, true, true, true, true, true, true, true, true, true, true, true, true, true, true, true, true, true, true, true, true, true, true, true, true, true, true, true, true, true, true, true, true, true, true, true, true, true, false, false, false, false, false, false, false, false, false, false, false, false] rfl rfl (any_of HT_.out (by kernel_rfl)) (fun _ _ _ h => h) (Or.inl ⟨by rfl, ?_⟩) ?_ ?_
                      rotate_left
                      · intro w'
                        go_simp
                        with_reducible rfl
                      rotate_left
                      · simp only [Act.put, List.setIfInBounds_toArray, List.set_cons_zero, List.set_cons_succ, i64_w, i32_w]
                        rfl
                      refine pure_ (i := 48) (N := some 63) (v := ?_) (a' := ?_) #[true, true, true, true, true, true, true, true, true, true, true, true, true, true, true, true, true, true, true, true, true, true, true, true, true, true, true, true, true, true, true, true, true, true, true, true, true, true, true, true, true, true, true, true, true, true, true, true, true, false, false, false, false, false, false, false, false, false, false, false] rfl rfl (any_of HT_.out (by kernel_rfl)) (fun _ _ _ h => h) (Or.inl ⟨by rfl, ?_⟩) ?_ ?_
                      rotate_left
                      · intro w'
                        go_simp
                        with_reducible rfl
                      rotate_left
                      · simp only [Act.put, List.setIfInBounds_toArray, List.set_cons_zero, List.set_cons_succ, i64_w, i32_w]
                        rfl
                      refine one_ (i := 49) (N := some 64) #[true, true, true, true, true, true, true, true, true, true, true, true, true, true, true, true, true, true, true, true, true, true, true, true, true, true, true, true, true, true, true, true, true, true, true, true, true, true, true, true, true, true, true, true, true, true, true, true, true, true, false, false, false, false, false, false, false, false, false, false] rfl rfl (one_of HT_.out (by kernel_rfl)) (by decide) (fun K hK => ?_)
                      refine goes_ Try.func17 (by kernel_rfl) rfl #[.int .i64 64] (by rfl) rfl rfl (by (try simp only [List.map_toArray, List.map_cons, List.map_nil]); first | done | rfl | (simp only [List.length_drop, List.length_take]; rfl) | (simp; done)) ?_
                      with_reducible refine (rect_Of.calls 64 t157 t158 t159 t160 _ A21.out).mono ?_
                      rintro e w46 ⟨rfl, hb⟩
                      refine ⟨_, rfl, ?_⟩
                      have n0_ := Aside0.mk (blk_below (g := gb131) (o := .cells #[.int .u32 2, .int .u32 2, .int .u32 5, .int .u32 5] 24 (0, 0)) (by (with_reducible repeat (first | refine blk_drewN ?_ _ | refine blk_drew ?_ | refine blk_alloc ?_ _)); exact BK131.out) hb)
                      have n1_ := Aside0.mk (blk_below (g := gb132) (o := .cells #[.int .u32 5, .int .u32 0, .int .u32 9, .int .u32 3] 24 (0, 0)) (by (with_reducible repeat (first | refine blk_drewN ?_ _ | refine blk_drew ?_ | refine blk_alloc ?_ _)); exact BK132.out) hb)
                      have n2_ := Aside0.mk (blk_below (g := gb133) (o := .cells #[.int .i64 1] 3 (0, 0)) (by (with_reducible repeat (first | refine blk_drewN ?_ _ | refine blk_drew ?_ | refine blk_alloc ?_ _)); exact BK133.out) hb)
                      have n3_ := Aside0.mk (below_step (by repeat (first | (with_reducible first | exact HB.out | apply below_alloc | apply pw_below_drewN | apply below_drew1 | refine below_set ?_ GE131.out | refine below_set ?_ GE132.out | refine below_set ?_ GE133.out) | exact HB.out)) hb)
                      clear BK131
                      clear BK132
                      clear BK133
                      clear HB
                      have BK131 := n0_
                      have BK132 := n1_
                      have BK133 := n2_
                      have HB := n3_
                      clear n0_ n1_ n2_ n3_
                      (try clear hb)
                      (try clear hb2)
                      (try clear hk)
                      (try clear hi)
                      refine hK.out _ _ ⟨(blk_cell BK131.out 0).trans rfl, (blk_cell BK131.out 1).trans rfl, (blk_cell BK131.out 2).trans rfl, (blk_cell BK131.out 3).trans rfl, (blk_cell BK132.out 0).trans rfl, (blk_cell BK132.out 1).trans rfl, (blk_cell BK132.out 2).trans rfl, (blk_cell BK132.out 3).trans rfl, (blk_cell BK133.out 0).trans rfl⟩ (fun hHeld => ?_)
                      clear hK K
                      refine norm_ (a' := ?_) ?_ ?_
                      rotate_left
                      · show Act.put _ (some 64) _ = _
                        simp only [Act.put, List.setIfInBounds_toArray, List.set_cons_zero, List.set_cons_succ, i64_w, i32_w]
                        rfl
                      refine one_ (i := 50) (N := some 65) #[true, true, true, true, true, true, true, true, true, true, true, true, true, true, true, true, true, true, true, true, true, true, true, true, true, true, true, true, true, true, true, true, true, true, true, true, true, true, true, true, true, true, true, true, true, true, true, true, true, true, true, false, false, false, false, false, false, false, false, false] rfl rfl (one_of HT_.out (by kernel_rfl)) (by decide) (fun K hK => ?_)
                      refine goes_ Try.func10 (by kernel_rfl) rfl #[.agg #[.int .u32 t157, .int .u32 t158, .int .u32 t159, .int .u32 t160]] (by rfl) rfl rfl (by (try simp only [List.map_toArray, List.map_cons, List.map_nil]); first | done | rfl | (simp only [List.length_drop, List.length_take]; rfl) | (simp; done)) ?_
                      with_reducible refine (rect_Empty.calls t157 t158 t159 t160 true _ A22.out).mono ?_
                      rintro e w47 ⟨rfl, hb⟩
                      refine ⟨_, rfl, ?_⟩
                      have n0_ := Aside0.mk (blk_below (g := gb131) (o := .cells #[.int .u32 2, .int .u32 2, .int .u32 5, .int .u32 5] 24 (0, 0)) (by (with_reducible repeat (first | refine blk_drewN ?_ _ | refine blk_drew ?_ | refine blk_alloc ?_ _)); exact BK131.out) hb)
                      have n1_ := Aside0.mk (blk_below (g := gb132) (o := .cells #[.int .u32 5, .int .u32 0, .int .u32 9, .int .u32 3] 24 (0, 0)) (by (with_reducible repeat (first | refine blk_drewN ?_ _ | refine blk_drew ?_ | refine blk_alloc ?_ _)); exact BK132.out) hb)
                      have n2_ := Aside0.mk (blk_below (g := gb133) (o := .cells #[.int .i64 1] 3 (0, 0)) (by (with_reducible repeat (first | refine blk_drewN ?_ _ | refine blk_drew ?_ | refine blk_alloc ?_ _)); exact BK133.out) hb)
                      have n3_ := Aside0.mk (below_step (by repeat (first | (with_reducible first | exact HB.out | apply below_alloc | apply pw_below_drewN | apply below_drew1 | refine below_set ?_ GE131.out | refine below_set ?_ GE132.out | refine below_set ?_ GE133.out) | exact HB.out)) hb)
                      clear BK131
                      clear BK132
                      clear BK133
                      clear HB
                      have BK131 := n0_
                      have BK132 := n1_
                      have BK133 := n2_
                      have HB := n3_
                      clear n0_ n1_ n2_ n3_
                      (try clear hb)
                      (try clear hb2)
                      (try clear hk)
                      (try clear hi)
                      refine hK.out _ _ ⟨(blk_cell BK131.out 0).trans rfl, (blk_cell BK131.out 1).trans rfl, (blk_cell BK131.out 2).trans rfl, (blk_cell BK131.out 3).trans rfl, (blk_cell BK132.out 0).trans rfl, (blk_cell BK132.out 1).trans rfl, (blk_cell BK132.out 2).trans rfl, (blk_cell BK132.out 3).trans rfl, (blk_cell BK133.out 0).trans rfl⟩ (fun hHeld => ?_)
                      clear hK K
                      refine norm_ (a' := ?_) ?_ ?_
                      rotate_left
                      · show Act.put _ (some 65) _ = _
                        simp only [Act.put, List.setIfInBounds_toArray, List.set_cons_zero, List.set_cons_succ, i64_w, i32_w]
                        rfl
                      refine pure_ (i := 51) (N := some 66) (v := ?_) (a' := ?_) #[true, true, true, true, true, true, true, true, true, true, true, true, true, true, true, true, true, true, true, true, true, true, true, true, true, true, true, true, true, true, true, true, true, true, true, true, true, true, true, true, true, true, true, true, true, true, true, true, true, true, true, true, false, false, false, false, false, false, false, false] rfl rfl (any_of HT_.out (by kernel_rfl)) (fun _ _ _ h => h) (Or.inl ⟨by rfl, ?_⟩) ?_ ?_
                      rotate_left
                      · intro w'
                        go_simp
                        with_reducible rfl
                      rotate_left
                      · simp only [Act.put, List.setIfInBounds_toArray, List.set_cons_zero, List.set_cons_succ, i64_w, i32_w]
                        rfl
                      refine pure_ (i := 52) (N := some 67) (v := ?_) (a' := ?_) #[true, true, true, true, true, true, true, true, true, true, true, true, true, true, true, true, true, true, true, true, true, true, true, true, true, true, true, true, true, true, true, true, true, true, true, true, true, true, true, true, true, true, true, true, true, true, true, true, true, true, true, true, true, false, false, false, false, false, false, false] rfl rfl (any_of HT_.out (by kernel_rfl)) (fun _ _ _ h => h) (Or.inl ⟨by rfl, ?_⟩) ?_ ?_
                      rotate_left
                      · intro w'
                        go_simp
                        with_reducible rfl
                      rotate_left
                      · simp only [Act.put, List.setIfInBounds_toArray, List.set_cons_zero, List.set_cons_succ, i64_w, i32_w]
                        rfl
                      refine pure_ (i := 56) (N := some 71) (v := ?_) (a' := ?_) #[true, true, true, true, true, true, true, true, true, true, true, true, true, true, true, true, true, true, true, true, true, true, true, true, true, true, true, true, true, true, true, true, true, true, true, true, true, true, true, true, true, true, true, true, true, true, true, true, true, true, true, true, true, false, false, false, true, false, false, false] rfl rfl (any_of HT_.out (by kernel_rfl)) (fun _ _ _ h => h) (Or.inl ⟨by rfl, ?_⟩) ?_ ?_
                      rotate_left
                      · intro w'
                        go_simp
                        with_reducible rfl
                      rotate_left
                      · simp only [Act.put, List.setIfInBounds_toArray, List.set_cons_zero, List.set_cons_succ, i64_w, i32_w]
                        rfl
                      refine take_ (i := 53) (N := some 68) (v := ?_) (a' := ?_) #[true, true, true, true, true, true, true, true, true, true, true, true, true, true, true, true, true, true, true, true, true, true, true, true, true, true, true, true, true, true, true, true, true, true, true, true, true, true, true, true, true, true, true, true, true, true, true, true, true, true, true, true, true, true, false, false, true, false, false, false] rfl rfl (take_ofW HT_.out HW_.out (by kernel_rfl)) (fun _ _ _ h => h) (Or.inl ⟨by rfl, ?_⟩) hHeld ?_ ?_
                      rotate_left
                      · rintro w' ⟨s0, s1, s2, s3, s4, s5, s6, s7, s8⟩
                        go_simp
                        with_reducible rfl
                      rotate_left
                      · simp only [Act.put, List.setIfInBounds_toArray, List.set_cons_zero, List.set_cons_succ, i64_w, i32_w]
                        rfl
                      refine take_ (i := 54) (N := some 69) (v := ?_) (a' := ?_) #[true, true, true, true, true, true, true, true, true, true, true, true, true, true, true, true, true, true, true, true, true, true, true, true, true, true, true, true, true, true, true, true, true, true, true, true, true, true, true, true, true, true, true, true, true, true, true, true, true, true, true, true, true, true, true, false, true, false, false, false] rfl rfl (take_ofW HT_.out HW_.out (by kernel_rfl)) (fun _ _ _ h => h) (Or.inl ⟨by rfl, ?_⟩) hHeld ?_ ?_
                      rotate_left
                      · rintro w' ⟨s0, s1, s2, s3, s4, s5, s6, s7, s8⟩
                        go_simp
                        with_reducible rfl
                      rotate_left
                      · simp only [Act.put, List.setIfInBounds_toArray, List.set_cons_zero, List.set_cons_succ, i64_w, i32_w]
                        rfl
                      refine one_ (i := 55) (N := some 70) #[true, true, true, true, true, true, true, true, true, true, true, true, true, true, true, true, true, true, true, true, true, true, true, true, true, true, true, true, true, true, true, true, true, true, true, true, true, true, true, true, true, true, true, true, true, true, true, true, true, true, true, true, true, true, true, true, true, false, false, false] rfl rfl (one_of HT_.out (by kernel_rfl)) (by decide) (fun K hK => ?_)
                      refine goes_ Try.func9 (by kernel_rfl) rfl #[.agg #[.int .u32 2, .int .u32 2, .int .u32 5, .int .u32 5], .agg #[.int .u32 5, .int .u32 0, .int .u32 9, .int .u32 3]] (by rfl) rfl rfl (by (try simp only [List.map_toArray, List.map_cons, List.map_nil]); first | done | rfl | (simp only [List.length_drop, List.length_take]; rfl) | (simp; done)) ?_
                      with_reducible refine (rect_Hull.calls 2 2 5 5 5 0 9 3 t162 t163 t164 t165 _ A24.out).mono ?_
                      rintro e w48 ⟨rfl, hb⟩
                      refine ⟨_, rfl, ?_⟩
                      have n0_ := Aside0.mk (blk_below (g := gb131) (o := .cells #[.int .u32 2, .int .u32 2, .int .u32 5, .int .u32 5] 24 (0, 0)) (by (with_reducible repeat (first | refine blk_drewN ?_ _ | refine blk_drew ?_ | refine blk_alloc ?_ _)); exact BK131.out) hb)
                      have n1_ := Aside0.mk (blk_below (g := gb132) (o := .cells #[.int .u32 5, .int .u32 0, .int .u32 9, .int .u32 3] 24 (0, 0)) (by (with_reducible repeat (first | refine blk_drewN ?_ _ | refine blk_drew ?_ | refine blk_alloc ?_ _)); exact BK132.out) hb)
                      have n2_ := Aside0.mk (blk_below (g := gb133) (o := .cells #[.int .i64 1] 3 (0, 0)) (by (with_reducible repeat (first | refine blk_drewN ?_ _ | refine blk_drew ?_ | refine blk_alloc ?_ _)); exact BK133.out) hb)
                      have n3_ := Aside0.mk (below_step (by repeat (first | (with_reducible first | exact HB.out | apply below_alloc | apply pw_below_drewN | apply below_drew1 | refine below_set ?_ GE131.out | refine below_set ?_ GE132.out | refine below_set ?_ GE133.out) | exact HB.out)) hb)
                      clear BK131
                      clear BK132
                      clear BK133
                      clear HB
                      have BK131 := n0_
                      have BK132 := n1_
                      have BK133 := n2_
                      have HB := n3_
                      clear n0_ n1_ n2_ n3_
                      (try clear hb)
                      (try clear hb2)
                      (try clear hk)
                      (try clear hi)
                      refine hK.out _ _ ⟨(blk_cell BK131.out 0).trans rfl, (blk_cell BK131.out 1).trans rfl, (blk_cell BK131.out 2).trans rfl, (blk_cell BK131.out 3).trans rfl, (blk_cell BK132.out 0).trans rfl, (blk_cell BK132.out 1).trans rfl, (blk_cell BK132.out 2).trans rfl, (blk_cell BK132.out 3).trans rfl, (blk_cell BK133.out 0).trans rfl⟩ (fun hHeld => ?_)
                      clear hK K
                      refine norm_ (a' := ?_) ?_ ?_
                      rotate_left
                      · show Act.put _ (some 70) _ = _
                        simp only [Act.put, List.setIfInBounds_toArray, List.set_cons_zero, List.set_cons_succ, i64_w, i32_w]
                        rfl
                      refine pure_ (i := 57) (N := some 72) (v := ?_) (a' := ?_) #[true, true, true, true, true, true, true, true, true, true, true, true, true, true, true, true, true, true, true, true, true, true, true, true, true, true, true, true, true, true, true, true, true, true, true, true, true, true, true, true, true, true, true, true, true, true, true, true, true, true, true, true, true, true, true, true, true, true, false, false] rfl rfl (any_of HT_.out (by kernel_rfl)) (fun _ _ _ h => h) (Or.inl ⟨by rfl, ?_⟩) ?_ ?_
                      rotate_left
                      · intro w'
                        go_simp
                        with_reducible rfl
                      rotate_left
                      · simp only [Act.put, List.setIfInBounds_toArray, List.set_cons_zero, List.set_cons_succ, i64_w, i32_w]
                        rfl
                      refine pure_ (i := 58) (N := some 73) (v := ?_) (a' := ?_) #[true, true, true, true, true, true, true, true, true, true, true, true, true, true, true, true, true, true, true, true, true, true, true, true, true, true, true, true, true, true, true, true, true, true, true, true, true, true, true, true, true, true, true, true, true, true, true, true, true, true, true, true, true, true, true, true, true, true, true, false] rfl rfl (any_of HT_.out (by kernel_rfl)) (fun _ _ _ h => h) (Or.inl ⟨by rfl, ?_⟩) ?_ ?_
                      rotate_left
                      · intro w'
                        go_simp
                        with_reducible rfl
                      rotate_left
                      · simp only [Act.put, List.setIfInBounds_toArray, List.set_cons_zero, List.set_cons_succ, i64_w, i32_w]
                        rfl
                      refine pure_ (i := 59) (N := some 0) (v := ?_) (a' := ?_) #[true, true, true, true, true, true, true, true, true, true, true, true, true, true, true, true, true, true, true, true, true, true, true, true, true, true, true, true, true, true, true, true, true, true, true, true, true, true, true, true, true, true, true, true, true, true, true, true, true, true, true, true, true, true, true, true, true, true, true, true] rfl rfl (any_of HT_.out (by kernel_rfl)) (fun _ _ _ h => h) (Or.inl ⟨by rfl, ?_⟩) ?_ ?_
                      rotate_left
                      · intro w'
                        go_simp
                        with_reducible rfl
                      rotate_left
                      · simp only [Act.put, List.setIfInBounds_toArray, List.set_cons_zero, List.set_cons_succ, i64_w, i32_w]
                        rfl
                      refine done_ (done_of HT_.out (by kernel_rfl)) ?_
                      simp only [noPanic]
                      try go_wp2
                      refine ⟨by simp, .inl ⟨_, _, rfl, run_takeDeferred ((HB.out.block D (Array.getElem?_eq_some_iff.1 hK).1).trans hK), ?_⟩⟩
                      exact ⟨_, results_tmp rfl _ _ _, by simp [*], hB.out.trans ((HB.out.mono hB.out.size).trans (belowK_b (w := w) (Nat.le_refl _) _ D _ _ hD0 ((HB.out.block D (Array.getElem?_eq_some_iff.1 hK).1).trans hK) rfl rfl))⟩
                    · replace c23 := Bool.eq_false_iff.mpr c23
                      subst c23
                      have H1 : (none) = some r := by rw [if_neg (show ¬ (false = true) by decide)] at H; exact H
                      clear H
                      have H := H1
                      clear H1
                      exact absurd H (by simp)
                  · rw [if_neg c20] at H
                    have c20b0 : (t156 == 64) = false := beq_eq_false_iff_ne.mpr c20
                    have c20b1 : (t156 != 64) = true := bne_iff_ne.mpr c20
                    exact absurd H (by simp)
                · rw [if_neg c17] at H
                  have c17b0 : (t148 == 536870912 && (t149 == 1073741824 && (t150 == 1073741823 && (t151 == 1610612735)))) = false := by simpa using c17
                  (try (have c17b1 : decide (t148 = 536870912 && (t149 == 1073741824 && (t150 == 1073741823 && (t151 == 1610612735)))) = false := by simpa using c17))
                  (try (have c17b2 : (t148 == 536870912 && (t149 == 1073741824 && (t150 == 1073741823 && (t151 == 1610612735)))) = false := by simpa using c17))
                  (try (have c17b3 : ¬ (t148 = 536870912 && (t149 == 1073741824 && (t150 == 1073741823 && (t151 == 1610612735)))) := by simpa using c17))
                  clear c17
                  exact absurd H (by simp)
              · rw [if_neg c15] at H
                have c15b0 : (t147 == 17) = false := beq_eq_false_iff_ne.mpr c15
                have c15b1 : (t147 != 17) = true := bne_iff_ne.mpr c15
                exact absurd H (by simp)
            · replace c13 := Bool.eq_false_iff.mpr c13
              subst c13
              have H1 : (none) = some r := by rw [if_neg (show ¬ (false = true) by decide)] at H; exact H
              clear H
              have H := H1
              clear H1
              exact absurd H (by simp)
        · replace c8 := Bool.eq_false_iff.mpr c8
          subst c8
          have H1 : (none) = some r := by rw [if_neg (show ¬ (false = true) by decide)] at H; exact H
          clear H
          have H := H1
          clear H1
          exact absurd H (by simp)
      · rw [if_neg c6] at H
        have c6b0 : (t136 == 5 && (t137 == 2 && (t138 == 5 && (t139 == 3)))) = false := by simpa using c6
        (try (have c6b1 : decide (t136 = 5 && (t137 == 2 && (t138 == 5 && (t139 == 3)))) = false := by simpa using c6))
        (try (have c6b2 : (t136 == 5 && (t137 == 2 && (t138 == 5 && (t139 == 3)))) = false := by simpa using c6))
        (try (have c6b3 : ¬ (t136 = 5 && (t137 == 2 && (t138 == 5 && (t139 == 3)))) := by simpa using c6))
        clear c6
        exact absurd H (by simp)
  · replace c2 := Bool.eq_false_iff.mpr c2
    subst c2
    have H1 : (none) = some r := by rw [if_neg (show ¬ (false = true) by decide)] at H; exact H
    clear H
    have H := H1
    clear H1
    exact absurd H (by simp)

end

end Go.Proofs.Ytcemdkppkklfnaa.PAll
