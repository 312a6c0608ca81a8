/- Walks by the logic of values. -/
import Derived.Test.YtgfpgaaoigeopaaVa
import Derived.Test.YtgfpgaaoigeopaaVb
import Derived.Test.YtgfpgaaoigeopaaVc
import Derived.Test.YtgfpgaaoigeopaaVmT
import Derived.Test.YtgfpgaaoigeopaaVmP
namespace Go.Proofs.Ytgfpgaaoigeopaa
open Go.Vm
set_option linter.unusedVariables false
set_option linter.unusedSimpArgs false
set_option maxRecDepth 100000 in
theorem hitsum_d : (List.range 64).all (fun t => (List.range 9).all fun c => (List.range 9).all fun r => (((dn c).map fun i => ((dn r).map fun q => hit t (i * 9 + q)).sum).sum == if t % 8 < c ∧ t / 8 < r then 1 else 0)) = true := by decide +kernel
theorem hitsum {t c r : Nat} (ht : t < 64) (hc : c ≤ 8) (hr : r ≤ 8) : ((dn c).map fun i => ((dn r).map fun q => hit t (i * 9 + q)).sum).sum = if t % 8 < c ∧ t / 8 < r then 1 else 0 := by
  have h := List.all_eq_true.1 (List.all_eq_true.1 (List.all_eq_true.1 hitsum_d t (List.mem_range.2 ht)) c (List.mem_range.2 (by omega))) r (List.mem_range.2 (by omega))
  exact eq_of_beq h
theorem sum_lin {α : Type} (a : Int) (f : α → Nat) (h : α → Int) : ∀ L : List α, (L.map fun x => a * ((f x : Nat) : Int) + h x).sum = a * (((L.map f).sum : Nat) : Int) + (L.map h).sum
  | [] => by simp
  | x :: L => by
    simp only [List.map_cons, List.sum_cons]
    rw [sum_lin a f h L]; push_cast; rw [Int.mul_add]; omega
theorem G_cons (p : Nat × Int) (P : List (Nat × Int)) (j : Nat) : G (p :: P) j = p.2 * ((hit p.1 j : Nat) : Int) + G P j := by unfold G; simp
theorem inS_cons (p : Nat × Int) (P : List (Nat × Int)) (i q : Nat) : inS (G (p :: P)) i q = p.2 * ((((dn q).map fun q => hit p.1 (i * 9 + q)).sum : Nat) : Int) + inS (G P) i q := by
  unfold inS
  exact (congrArg List.sum (List.map_congr_left (fun x _ => G_cons p P _))).trans (sum_lin _ _ _ _)
theorem outS_cons (p : Nat × Int) (P : List (Nat × Int)) (i q : Nat) : outS (G (p :: P)) i q = p.2 * ((((dn i).map fun i => ((dn q).map fun q => hit p.1 (i * 9 + q)).sum).sum : Nat) : Int) + outS (G P) i q := by
  unfold outS
  exact (congrArg List.sum (List.map_congr_left (fun x _ => inS_cons p P x q))).trans (sum_lin _ _ _ _)
theorem sum_zero {α : Type} (f : α → Int) (h : ∀ x, f x = 0) : ∀ L : List α, (L.map f).sum = 0
  | [] => rfl
  | x :: L => by rw [List.map_cons, List.sum_cons, h, sum_zero f h L]; rfl
theorem outS_nil (i q : Nat) : outS (G []) i q = 0 := by
  unfold outS; apply sum_zero; intro x; unfold inS; apply sum_zero; intro y; rfl
theorem outS_step2 (p : Nat × Int) (P : List (Nat × Int)) {c r : Nat} (hp : p.1 < 64) (hc : c ≤ 8) (hr : r ≤ 8) : outS (G (p :: P)) c r = (if p.1 % 8 < c ∧ p.1 / 8 < r then p.2 else 0) + outS (G P) c r := by
  rw [outS_cons, hitsum hp hc hr]; split <;> simp
def cn (P : List (Nat × Int)) (f : Nat → Prop) [DecidablePred f] : Int := (P.map fun p : Nat × Int => if f p.1 then p.2 else (0 : Int)).sum
def inBox (x0 y0 x1 y1 : Nat) (t : Nat) : Prop := x0 ≤ t % 8 ∧ t % 8 ≤ x1 ∧ y0 ≤ t / 8 ∧ t / 8 ≤ y1
instance (x0 y0 x1 y1 : Nat) : DecidablePred (inBox x0 y0 x1 y1) := fun t => by unfold inBox; infer_instance
theorem cn_cons (p : Nat × Int) (P : List (Nat × Int)) (f : Nat → Prop) [DecidablePred f] : cn (p :: P) f = (if f p.1 then p.2 else 0) + cn P f := by unfold cn; simp
theorem box_sem {x0 y0 x1 y1 : Nat} (h1 : x0 ≤ 8) (h2 : y0 ≤ 8) (h3 : x1 ≤ 7) (h4 : y1 ≤ 7) : ∀ P, okW P → boxF (G P) x0 y0 x1 y1 = cn P (inBox x0 y0 x1 y1)
  | [], _ => by unfold boxF; simp only [outS_nil]; unfold cn; simp
  | p :: P, h => by
    have ih := box_sem h1 h2 h3 h4 P fun q hq => h q (List.mem_cons_of_mem _ hq)
    have hp := (h p (List.mem_cons_self ..)).1
    rw [cn_cons, ← ih]
    unfold boxF
    rw [outS_step2 p P hp (by omega) (by omega), outS_step2 p P hp (by omega) (by omega), outS_step2 p P hp (by omega) (by omega), outS_step2 p P hp (by omega) (by omega)]
    have e : (if inBox x0 y0 x1 y1 p.1 then p.2 else (0 : Int)) = if x0 ≤ p.1 % 8 ∧ p.1 % 8 ≤ x1 ∧ y0 ≤ p.1 / 8 ∧ p.1 / 8 ≤ y1 then p.2 else 0 := by unfold inBox; rfl
    rw [e]
    by_cases hb : x1 < x0 ∨ y1 < y0
    · rw [if_pos hb, if_pos hb, if_neg (by omega)]; rfl
    · rw [if_neg hb, if_neg hb]
      by_cases a1 : x0 ≤ p.1 % 8 <;> by_cases a2 : p.1 % 8 ≤ x1 <;> by_cases a3 : y0 ≤ p.1 / 8 <;> by_cases a4 : p.1 / 8 ≤ y1 <;> simp only [a1, a2, a3, a4, true_and, and_true, and_self, if_true, false_and, and_false, if_false, show (p.1 % 8 < x1 + 1) = (p.1 % 8 ≤ x1) from propext (by omega), show (p.1 / 8 < y1 + 1) = (p.1 / 8 ≤ y1) from propext (by omega), show (p.1 % 8 < x0) = ¬ (x0 ≤ p.1 % 8) from propext (by omega), show (p.1 / 8 < y0) = ¬ (y0 ≤ p.1 / 8) from propext (by omega), not_true, not_false_eq_true] <;> omega
theorem cn_app (P Q : List (Nat × Int)) (f : Nat → Prop) [DecidablePred f] : cn (P ++ Q) f = cn P f + cn Q f := by unfold cn; simp
theorem cn_pos {P : List (Nat × Int)} (f : Nat → Prop) [DecidablePred f] (h : ∀ p ∈ P, 0 ≤ p.2) : 0 ≤ cn P f := by
  induction P with
  | nil => simp [cn]
  | cons p P ih =>
    rw [cn_cons]
    have h1 := ih fun q hq => h q (List.mem_cons_of_mem _ hq)
    have h2 := h p (List.mem_cons_self ..)
    split <;> omega
theorem cn_congr {P : List (Nat × Int)} {f g : Nat → Prop} [DecidablePred f] [DecidablePred g] (h : ∀ p ∈ P, f p.1 ↔ g p.1) : cn P f = cn P g := by
  unfold cn; congr 1; apply List.map_congr_left; intro p hp; by_cases hf : f p.1
  · rw [if_pos hf, if_pos ((h p hp).1 hf)]
  · rw [if_neg hf, if_neg (fun hg => hf ((h p hp).2 hg))]
theorem cn_all (l : List Pt) : cn (ptW l 1) (fun _ => True) = l.length := by
  induction l with
  | nil => rfl
  | cons p l ih => rw [show ptW (p :: l) 1 = (tl p.x p.y, 1) :: ptW l 1 from rfl, cn_cons, ih]; simp; omega
theorem cn_split {P : List (Nat × Int)} {f g h : Nat → Prop} [DecidablePred f] [DecidablePred g] [DecidablePred h] (he : ∀ p ∈ P, (h p.1 ↔ f p.1 ∨ g p.1) ∧ ¬ (f p.1 ∧ g p.1)) : cn P f + cn P g = cn P h := by
  induction P with
  | nil => rfl
  | cons p P ih =>
    rw [cn_cons, cn_cons, cn_cons, ← ih fun q hq => he q (List.mem_cons_of_mem _ hq)]
    have h1 := he p (List.mem_cons_self ..)
    by_cases hf : f p.1
    · rw [if_pos hf, if_neg (fun hg => h1.2 ⟨hf, hg⟩), if_pos (h1.1.2 (.inl hf))]; omega
    · rw [if_neg hf]
      by_cases hg : g p.1
      · rw [if_pos hg, if_pos (h1.1.2 (.inr hg))]; omega
      · rw [if_neg hg, if_neg (fun hh => by rcases h1.1.1 hh with h2 | h2; exact hf h2; exact hg h2)]; omega
theorem tF_sem {P : List (Nat × Int)} (h : okW P) {n : Nat} (hn : n < 64) : tF (G P) n = cn P (fun t => t = n) := by
  unfold tF
  rw [box_sem (by omega) (by omega) (by omega) (by omega) P h]
  exact cn_congr fun p _ => by unfold inBox; omega
def sT (T : Nat → Int) : Nat → Int
  | 0 => 0
  | j + 1 => sT T j + T j
theorem sT_sem {P : List (Nat × Int)} (h : okW P) : ∀ j, j ≤ 64 → sT (tF (G P)) j = cn P (fun t => t < j)
  | 0, _ => by
    unfold sT
    rw [cn_congr (g := fun _ => False) (fun p _ => by simp)]
    unfold cn; symm; apply sum_zero; intro p; simp
  | j + 1, hj => by
    unfold sT
    rw [sT_sem h j (by omega), tF_sem h (by omega)]
    exact cn_split fun p _ => by omega
theorem sT_all {l : List Pt} (hl : ∀ p ∈ l, okPt p) : sT (tF (G (ptW l 1))) 64 = l.length := by
  have hW := ptW_ok hl (n := 1) (by omega)
  rw [sT_sem hW 64 (by omega), ← cn_all]
  exact cn_congr fun p hp => by have := (hW p hp).1; simp; exact this
theorem ptW_pos (l : List Pt) : ∀ p ∈ ptW l 1, 0 ≤ p.2 := fun p hp => by unfold ptW at hp; obtain ⟨q, _, rfl⟩ := List.mem_map.1 hp; simp
theorem tF_pos {l : List Pt} (hl : ∀ p ∈ l, okPt p) {n : Nat} (hn : n < 64) : 0 ≤ tF (G (ptW l 1)) n := by
  rw [tF_sem (ptW_ok hl (by omega)) hn]; exact cn_pos _ (ptW_pos l)
def wkP : List (Nat × Int) := [(0, 1), (0, 1), (34, 1)]
def wkQ : List (Nat × Int) := [(0, 1), (0, 1), (34, 1), (0, -1)]
set_option maxRecDepth 100000 in
theorem wk_d : (loF (G wkP) 0 0 536870911 536870911 == 2 && hiF (G wkP) 0 0 536870911 536870911 == 2 && loF (G wkP) 0 0 5 5 == 0 && hiF (G wkP) 0 0 5 5 == 2 && tF (G wkQ) 0 == 1 && tF (G wkQ) 34 == 1) = true := by decide +kernel
set_option maxRecDepth 100000 in
theorem wk_t : (List.range 64).all (fun n => tF (G wkQ) n == if n = 0 ∨ n = 34 then 1 else 0) = true := by decide +kernel
theorem wk_T {n : Nat} (h : n < 64) : tF (G wkQ) n = if n = 0 ∨ n = 34 then 1 else 0 := eq_of_beq (List.all_eq_true.1 wk_t n (List.mem_range.2 h))
theorem deF_congr {T S : Nat → Int} : ∀ j, (∀ i, i < j → T i = S i) → deF T j = deF S j
  | 0, _ => rfl
  | j + 1, h => by
    have ih := deF_congr j fun i hi => h i (by omega)
    have hb := deF_bd S j
    unfold deF
    rw [ih, h j (by omega)]
    by_cases h0 : deF S j < 0
    · simp [h0]
    · rw [h (deF S j).toNat (by omega)]
theorem gsF_congr {T S : Nat → Int} {a b c d : Int} : ∀ j, (∀ i, i < j → T i = S i) → gsF T a b c d j = gsF S a b c d j
  | 0, _ => rfl
  | j + 1, h => by
    unfold gsF gTerm
    rw [gsF_congr j fun i hi => h i (by omega), h j (by omega)]
set_option maxRecDepth 100000 in
theorem wk_de : deF (fun n => if n = 0 ∨ n = 34 then 1 else 0) 64 = 0 := by decide +kernel
set_option maxRecDepth 100000 in
theorem wk_de0 : deF (fun _ => 0) 64 = -1 := by decide +kernel
set_option maxRecDepth 100000 in
theorem wk_gu : guF (fun n => if n = 0 ∨ n = 34 then 1 else 0) 0 0 4294967295 4294967295 = 2 := by decide +kernel
end Go.Proofs.Ytgfpgaaoigeopaa
