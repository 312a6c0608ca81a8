/- Walks by the logic of values. -/
import Derived.Test.YtgnbdegpljbckaaKrVmT
import Derived.Test.YtgnbdegpljbckaaKrVmP
import Derived.Test.YtgnbdegpljbckaaKrVmV
namespace Go.Proofs.Ytgnbdegpljbckaa
open Go.Vm
set_option linter.unusedVariables false
set_option linter.unusedSimpArgs false
/-! stretches: rising, none touches the next -/
structure Sp where
  lo : Int
  hi : Int
deriving Inhabited, DecidableEq
def mem (l : List Sp) (n : Int) : Prop := ∃ y ∈ l, y.lo ≤ n ∧ n ≤ y.hi
/-- Rising from behind b on. -/
def Can : Int → List Sp → Prop
  | _, [] => True
  | b, y :: l => b < y.lo ∧ y.lo ≤ y.hi ∧ Can (y.hi + 1) l
def UpTo (M : Int) (l : List Sp) : Prop := ∀ y ∈ l, y.hi ≤ M
theorem mem_nil {n : Int} : mem [] n ↔ False := ⟨fun ⟨_, h, _⟩ => (by cases h), False.elim⟩
theorem mem_cons {y : Sp} {l : List Sp} {n : Int} : mem (y :: l) n ↔ (y.lo ≤ n ∧ n ≤ y.hi) ∨ mem l n := by
  unfold mem; simp
theorem mem_app {l m : List Sp} {n : Int} : mem (l ++ m) n ↔ mem l n ∨ mem m n := by
  unfold mem
  constructor
  · rintro ⟨y, hy, h⟩
    rcases List.mem_append.1 hy with h1 | h1
    · exact .inl ⟨y, h1, h⟩
    · exact .inr ⟨y, h1, h⟩
  · rintro (⟨y, hy, h⟩ | ⟨y, hy, h⟩)
    · exact ⟨y, List.mem_append.2 (.inl hy), h⟩
    · exact ⟨y, List.mem_append.2 (.inr hy), h⟩
theorem Can.mono : ∀ {l : List Sp} {b c : Int}, Can c l → b ≤ c → Can b l
  | [], _, _, _, _ => trivial
  | _ :: _, _, _, h, hb => ⟨by have := h.1; omega, h.2⟩
theorem Can.lt : ∀ {l : List Sp} {b n : Int}, Can b l → mem l n → b < n
  | [], _, _, _, h => (mem_nil.1 h).elim
  | y :: l, b, n, h, hm => by
    rcases mem_cons.1 hm with h1 | h1
    · have := h.1; omega
    · have := Can.lt h.2.2 h1; have := h.1; have := h.2.1; omega
theorem can_same : ∀ {l m : List Sp} {b : Int}, Can b l → Can b m → (∀ n, mem l n ↔ mem m n) → l = m
  | [], [], _, _, _, _ => rfl
  | [], y :: m, _, _, h2, h => (mem_nil.1 ((h y.lo).2 (mem_cons.2 (.inl ⟨Int.le_refl _, h2.2.1⟩)))).elim
  | x :: l, [], _, h1, _, h => (mem_nil.1 ((h x.lo).1 (mem_cons.2 (.inl ⟨Int.le_refl _, h1.2.1⟩)))).elim
  | x :: l, y :: m, b, h1, h2, h => by
    obtain ⟨a1, a2, a3⟩ := h1
    obtain ⟨c1, c2, c3⟩ := h2
    have e1 : x.lo = y.lo := by
      have q1 := (h x.lo).1 (mem_cons.2 (.inl ⟨Int.le_refl _, a2⟩))
      have q2 := (h y.lo).2 (mem_cons.2 (.inl ⟨Int.le_refl _, c2⟩))
      have l1 : y.lo ≤ x.lo := by
        rcases mem_cons.1 q1 with q | q
        · exact q.1
        · have := c3.lt q; omega
      have l2 : x.lo ≤ y.lo := by
        rcases mem_cons.1 q2 with q | q
        · exact q.1
        · have := a3.lt q; omega
      omega
    have e2 : x.hi = y.hi := by
      rcases Int.lt_trichotomy x.hi y.hi with q | q | q
      · have q1 := (h (x.hi + 1)).2 (mem_cons.2 (.inl ⟨by omega, by omega⟩))
        rcases mem_cons.1 q1 with q2 | q2
        · omega
        · have := a3.lt q2; omega
      · exact q
      · have q1 := (h (y.hi + 1)).1 (mem_cons.2 (.inl ⟨by omega, by omega⟩))
        rcases mem_cons.1 q1 with q2 | q2
        · omega
        · have := c3.lt q2; omega
    obtain rfl : x = y := by cases x; cases y; simp_all
    rw [can_same (l := l) (m := m) (b := x.hi + 1) a3 c3 fun n => ?_]
    have h0 := h n
    rw [mem_cons, mem_cons] at h0
    constructor
    · intro q
      have := a3.lt q
      rcases h0.1 (.inr q) with q2 | q2
      · omega
      · exact q2
    · intro q
      have := c3.lt q
      rcases h0.2 (.inr q) with q2 | q2
      · omega
      · exact q2
/-! a stretch more -/
def mg : List Sp → Sp → List Sp
  | [], x => [x]
  | y :: l, x => if y.lo ≤ x.hi + 1 then mg l ⟨min x.lo y.lo, max x.hi y.hi⟩ else x :: y :: l
def addG : List Sp → Sp → List Sp
  | [], x => [x]
  | y :: l, x => if y.hi + 1 < x.lo then y :: addG l x else mg (y :: l) x
def addL (l : List Sp) (x : Sp) : List Sp := if x.hi < x.lo then l else addG l x
theorem mg_ok : ∀ {l : List Sp} {b : Int} {x : Sp}, Can b l → b < x.lo → x.lo ≤ x.hi → (∀ y, l.head? = some y → x.lo ≤ y.hi + 1) → Can b (mg l x) ∧ ∀ n, mem (mg l x) n ↔ mem l n ∨ (x.lo ≤ n ∧ n ≤ x.hi)
  | [], b, x, _, h1, h2, _ => ⟨⟨h1, h2, trivial⟩, fun n => by simp only [mg]; rw [mem_cons, mem_nil]; simp⟩
  | y :: l, b, x, h, h1, h2, h3 => by
    obtain ⟨a1, a2, a3⟩ := h
    have h4 := h3 y rfl
    simp only [mg]
    split
    · rename_i hc
      have hl : (⟨min x.lo y.lo, max x.hi y.hi⟩ : Sp).lo = min x.lo y.lo := rfl
      have hh : (⟨min x.lo y.lo, max x.hi y.hi⟩ : Sp).hi = max x.hi y.hi := rfl
      have q := mg_ok (l := l) (b := b) (x := ⟨min x.lo y.lo, max x.hi y.hi⟩) (a3.mono (by omega)) (by rw [hl]; omega) (by rw [hl, hh]; omega) (fun z hz => by
        cases l with
        | nil => cases hz
        | cons z' l => 
          simp at hz; subst hz
          have := a3.1; have := a3.2.1
          rw [hl]; omega)
      refine ⟨q.1, fun n => ?_⟩
      rw [q.2 n, hl, hh, mem_cons]
      constructor
      · rintro (q1 | q1)
        · exact .inl (.inr q1)
        · by_cases q2 : y.lo ≤ n ∧ n ≤ y.hi
          · exact .inl (.inl q2)
          · exact .inr (by omega)
      · rintro ((q1 | q1) | q1)
        · exact .inr (by omega)
        · exact .inl q1
        · exact .inr (by omega)
    · rename_i hc
      refine ⟨⟨h1, h2, by omega, a2, a3⟩, fun n => ?_⟩
      rw [mem_cons]; exact Or.comm
theorem addG_ok : ∀ {l : List Sp} {b : Int} {x : Sp}, Can b l → b < x.lo → x.lo ≤ x.hi → Can b (addG l x) ∧ ∀ n, mem (addG l x) n ↔ mem l n ∨ (x.lo ≤ n ∧ n ≤ x.hi)
  | [], b, x, _, h1, h2 => ⟨⟨h1, h2, trivial⟩, fun n => by simp only [addG]; rw [mem_cons, mem_nil]; simp⟩
  | y :: l, b, x, h, h1, h2 => by
    simp only [addG]
    split
    · rename_i hc
      obtain ⟨a1, a2, a3⟩ := h
      have q := addG_ok (x := x) a3 hc h2
      refine ⟨⟨a1, a2, q.1⟩, fun n => ?_⟩
      rw [mem_cons, mem_cons, q.2 n, or_assoc]
    · rename_i hc
      exact mg_ok h h1 h2 fun z hz => by simp at hz; subst hz; omega
theorem addL_ok {l : List Sp} {b : Int} {x : Sp} (h : Can b l) (h1 : b < x.lo) : Can b (addL l x) ∧ ∀ n, mem (addL l x) n ↔ mem l n ∨ (x.lo ≤ n ∧ n ≤ x.hi) := by
  unfold addL
  split
  · exact ⟨h, fun n => ⟨.inl, fun q => q.elim id fun q => by omega⟩⟩
  · exact addG_ok h h1 (by omega)
/-! a stretch less -/
def cutP (x y : Sp) : List Sp := if y.hi < x.lo ∨ x.hi < y.lo then [y] else (if y.lo < x.lo then [⟨y.lo, x.lo - 1⟩] else []) ++ (if x.hi < y.hi then [⟨x.hi + 1, y.hi⟩] else [])
def cutL (l : List Sp) (x : Sp) : List Sp := if x.hi < x.lo then l else l.flatMap (cutP x)
theorem cutG_ok : ∀ {l : List Sp} {b : Int} {x : Sp}, x.lo ≤ x.hi → Can b l → Can b (l.flatMap (cutP x)) ∧ ∀ n, mem (l.flatMap (cutP x)) n ↔ mem l n ∧ ¬ (x.lo ≤ n ∧ n ≤ x.hi)
  | [], b, x, _, _ => ⟨trivial, fun n => by simp [mem]⟩
  | y :: l, b, x, h2, h => by
    obtain ⟨a1, a2, a3⟩ := h
    have q := cutG_ok (x := x) h2 a3
    rw [List.flatMap_cons]
    have hmem : ∀ n, mem (cutP x y) n ↔ (y.lo ≤ n ∧ n ≤ y.hi) ∧ ¬ (x.lo ≤ n ∧ n ≤ x.hi) := by
      intro n
      unfold cutP
      split
      · simp only [mem_cons, mem_nil, or_false]; omega
      · rw [mem_app]
        split <;> split <;> simp only [mem_cons, mem_nil, or_false, false_or] <;> constructor <;> intro q <;> first | omega | exact q.elim
    refine ⟨?_, fun n => ?_⟩
    · have hm := fun (c : Int) (hc : c ≤ y.hi + 1) => q.1.mono hc
      unfold cutP
      split
      · exact ⟨a1, a2, q.1⟩
      · split
        · split
          · exact ⟨a1, by show y.lo ≤ x.lo - 1; omega, by show x.lo - 1 + 1 < x.hi + 1; omega, by show x.hi + 1 ≤ y.hi; omega, q.1⟩
          · exact ⟨a1, by show y.lo ≤ x.lo - 1; omega, hm _ (by show x.lo - 1 + 1 ≤ y.hi + 1; omega)⟩
        · split
          · exact ⟨by show b < x.hi + 1; omega, by show x.hi + 1 ≤ y.hi; omega, q.1⟩
          · exact hm _ (by omega)
    · rw [mem_app, hmem n, q.2 n, mem_cons, or_and_right]
theorem cutL_ok {l : List Sp} {b : Int} {x : Sp} (h : Can b l) : Can b (cutL l x) ∧ ∀ n, mem (cutL l x) n ↔ mem l n ∧ ¬ (x.lo ≤ n ∧ n ≤ x.hi) := by
  unfold cutL
  split
  · exact ⟨h, fun n => ⟨fun q => ⟨q, by omega⟩, fun q => q.1⟩⟩
  · exact cutG_ok (by omega) h
/-! of many -/
def joinL (a b : List Sp) : List Sp := b.foldl addL a
def lessL (a b : List Sp) : List Sp := b.foldl cutL a
def meetL (a b : List Sp) : List Sp := lessL a (lessL a b)
def ofL (l : List Sp) : List Sp := joinL [] l
def notL (M : Int) (a : List Sp) : List Sp := lessL (ofL [⟨0, M⟩]) a
theorem join_ok : ∀ {m l : List Sp} {b : Int}, Can b l → (∀ x ∈ m, b < x.lo) → Can b (joinL l m) ∧ ∀ n, mem (joinL l m) n ↔ mem l n ∨ mem m n
  | [], l, b, h, _ => ⟨h, fun n => by show mem l n ↔ _; rw [mem_nil, or_false]⟩
  | x :: m, l, b, h, h1 => by
    have q := addL_ok h (h1 x (List.mem_cons_self ..))
    have r := join_ok (m := m) q.1 fun z hz => h1 z (List.mem_cons_of_mem _ hz)
    exact ⟨r.1, fun n => (r.2 n).trans (by rw [q.2 n, mem_cons, or_assoc])⟩
theorem less_ok : ∀ {m l : List Sp} {b : Int}, Can b l → Can b (lessL l m) ∧ ∀ n, mem (lessL l m) n ↔ mem l n ∧ ¬ mem m n
  | [], l, b, h => ⟨h, fun n => by show mem l n ↔ _; rw [mem_nil]; simp⟩
  | x :: m, l, b, h => by
    have q := cutL_ok (x := x) h
    have r := less_ok (m := m) q.1
    exact ⟨r.1, fun n => (r.2 n).trans (by rw [q.2 n, mem_cons, not_or, and_assoc])⟩
theorem of_ok {l : List Sp} {b : Int} (h1 : ∀ x ∈ l, b < x.lo) : Can b (ofL l) ∧ ∀ n, mem (ofL l) n ↔ mem l n := by
  have q := join_ok (l := []) (m := l) (b := b) trivial h1
  exact ⟨q.1, fun n => (q.2 n).trans (by rw [mem_nil, false_or])⟩
theorem not_ok {M : Int} (hM : 0 ≤ M) {a : List Sp} : Can (-1) (notL M a) ∧ ∀ n, mem (notL M a) n ↔ (0 ≤ n ∧ n ≤ M) ∧ ¬ mem a n := by
  have q := of_ok (l := [⟨0, M⟩]) (b := -1) (by simp)
  have r := less_ok (m := a) q.1
  exact ⟨r.1, fun n => (r.2 n).trans (by rw [q.2 n, mem_cons, mem_nil, or_false])⟩
/-! how far -/
theorem upto_mem {M : Int} {l : List Sp} (h : ∀ n, mem l n → n ≤ M) {b : Int} (hc : Can b l) : UpTo M l := by
  intro y hy
  refine h y.hi ⟨y, hy, ?_, Int.le_refl _⟩
  induction l generalizing b with
  | nil => cases hy
  | cons z l ih =>
    rcases List.mem_cons.1 hy with rfl | h1
    · exact hc.2.1
    · exact ih (fun n hn => h n (mem_cons.2 (.inr hn))) hc.2.2 h1
theorem mem_upto {M : Int} {l : List Sp} (h : UpTo M l) {n : Int} (hm : mem l n) : n ≤ M := by
  obtain ⟨y, hy, h1, h2⟩ := hm
  have := h y hy; omega
theorem can_at : ∀ {l : List Sp} {b : Int} {i : Nat} {y : Sp}, Can b l → l[i]? = some y → b < y.lo ∧ y.lo ≤ y.hi
  | [], _, _, _, _, h => by simp at h
  | z :: l, b, 0, y, hc, h => by simp at h; subst h; exact ⟨hc.1, hc.2.1⟩
  | z :: l, b, i + 1, y, hc, h => by
    have := can_at (l := l) hc.2.2 (i := i) (by simpa using h)
    have := hc.1; have := hc.2.1; omega
theorem can_step : ∀ {l : List Sp} {b : Int} {i j : Nat} {x y : Sp}, Can b l → i < j → l[i]? = some x → l[j]? = some y → x.hi + 1 < y.lo
  | [], _, _, _, _, _, _, _, h, _ => by simp at h
  | z :: l, b, 0, j + 1, x, y, hc, _, h1, h2 => by
    simp at h1; subst h1
    exact (can_at (l := l) hc.2.2 (i := j) (by simpa using h2)).1
  | z :: l, b, i + 1, j + 1, x, y, hc, hij, h1, h2 => can_step (l := l) hc.2.2 (Nat.lt_of_succ_lt_succ hij) (by simpa using h1) (by simpa using h2)
/-! the first that does not end ahead of a number -/
def fdL : List Sp → Int → Nat
  | [], _ => 0
  | y :: l, n => if y.hi < n then fdL l n + 1 else 0
theorem fdL_le : ∀ (l : List Sp) (n : Int), fdL l n ≤ l.length
  | [], _ => Nat.le_refl _
  | y :: l, n => by unfold fdL; split; exact Nat.succ_le_succ (fdL_le l n); exact Nat.zero_le _
theorem fdL_lt : ∀ {l : List Sp} {n : Int} {i : Nat} {y : Sp}, i < fdL l n → l[i]? = some y → y.hi < n
  | [], _, _, _, _, h => by simp at h
  | z :: l, n, i, y, h1, h2 => by
    unfold fdL at h1
    split at h1
    · rename_i hz
      cases i with
      | zero => simp at h2; subst h2; exact hz
      | succ i => exact fdL_lt (l := l) (i := i) (by omega) (by simpa using h2)
    · omega
theorem fdL_at : ∀ {l : List Sp} {n : Int} {y : Sp}, l[fdL l n]? = some y → n ≤ y.hi
  | [], _, _, h => by simp at h
  | z :: l, n, y, h => by
    unfold fdL at h
    split at h
    · exact fdL_at (l := l) (by simpa using h)
    · simp at h; subst h; omega
theorem can_ge {l : List Sp} {b n : Int} (hc : Can b l) {j : Nat} {y : Sp} (hj : fdL l n ≤ j) (h : l[j]? = some y) : n ≤ y.hi := by
  have hl : j < l.length := by
    rcases Nat.lt_or_ge j l.length with q | q
    · exact q
    · rw [List.getElem?_eq_none q] at h; cases h
  have e := List.getElem?_eq_getElem (show fdL l n < l.length by omega)
  have a := fdL_at e
  rcases Nat.lt_or_ge (fdL l n) j with q | q
  · have := can_step hc q e h
    have := can_at hc h
    omega
  · obtain rfl : fdL l n = j := by omega
    rw [e] at h; cases h; exact a
theorem mem_at {l : List Sp} {n : Int} : mem l n ↔ ∃ (i : Nat) (y : Sp), l[i]? = some y ∧ y.lo ≤ n ∧ n ≤ y.hi := by
  unfold mem
  constructor
  · rintro ⟨y, hy, h⟩
    obtain ⟨i, hi⟩ := List.mem_iff_getElem?.1 hy
    exact ⟨i, y, hi, h⟩
  · rintro ⟨i, y, hi, h⟩
    exact ⟨y, List.mem_of_getElem? hi, h⟩
theorem has_iff {l : List Sp} {b n : Int} (hc : Can b l) : mem l n ↔ ∃ y, l[fdL l n]? = some y ∧ y.lo ≤ n := by
  rw [mem_at]
  constructor
  · rintro ⟨i, y, hi, h1, h2⟩
    rcases Nat.lt_trichotomy (fdL l n) i with h | h | h
    · have hl : i < l.length := by
        rcases Nat.lt_or_ge i l.length with q | q
        · exact q
        · rw [List.getElem?_eq_none q] at hi; cases hi
      have e := List.getElem?_eq_getElem (show fdL l n < l.length by omega)
      have a := fdL_at e
      have := can_step hc h e hi
      omega
    · exact ⟨y, h ▸ hi, h1⟩
    · have := fdL_lt h hi; omega
  · rintro ⟨y, h1, h2⟩
    exact ⟨_, y, h1, h2, fdL_at h1⟩
theorem next_no {l : List Sp} {n : Int} (h : fdL l n = l.length) : ∀ k, n ≤ k → ¬ mem l k := by
  intro k hk hm
  obtain ⟨i, y, hi, h1, h2⟩ := mem_at.1 hm
  have hl : i < l.length := by
    rcases Nat.lt_or_ge i l.length with q | q
    · exact q
    · rw [List.getElem?_eq_none q] at hi; cases hi
  have := fdL_lt (l := l) (n := n) (i := i) (by omega) hi
  omega
theorem next_yes {l : List Sp} {b n : Int} (hc : Can b l) {y : Sp} (h : l[fdL l n]? = some y) : mem l (max n y.lo) ∧ ∀ k, n ≤ k → mem l k → max n y.lo ≤ k := by
  have h1 := fdL_at h
  have h2 := can_at hc h
  refine ⟨mem_at.2 ⟨_, y, h, by omega, by omega⟩, fun k hk hm => ?_⟩
  obtain ⟨i, z, hi, h3, h4⟩ := mem_at.1 hm
  rcases Nat.lt_trichotomy (fdL l n) i with q | q | q
  · have := can_step hc q h hi; omega
  · subst q; rw [h] at hi; cases hi; omega
  · have := fdL_lt q hi; omega
/-! the document's answer: which numbers from 0 to 255 are there -/
/-- A set of numbers from 0 to 255, as the document tells it. -/
def Is (l : List Sp) (r : Nat → Bool) : Prop := Can (-1) l ∧ ∀ n : Int, mem l n ↔ (0 ≤ n ∧ n < 256) ∧ r n.toNat = true
theorem Is.same {l m : List Sp} {r s : Nat → Bool} (h : Is l r) (g : Is m s) : l = m ↔ ∀ k, k < 256 → r k = s k := by
  constructor
  · rintro rfl k hk
    have a := h.2 (k : Int)
    have b := g.2 (k : Int)
    rw [Int.toNat_natCast] at a b
    have c := a.symm.trans b
    cases h1 : r k <;> cases h2 : s k <;> first | rfl | (simp [h1, h2] at c; omega)
  · intro hk
    refine can_same h.1 g.1 fun n => ?_
    rw [h.2 n, g.2 n]
    constructor
    · rintro ⟨h1, h2⟩; exact ⟨h1, by rw [← hk _ (by omega)]; exact h2⟩
    · rintro ⟨h1, h2⟩; exact ⟨h1, by rw [hk _ (by omega)]; exact h2⟩
/-! how many -/
theorem mg_len : ∀ (l : List Sp) (x : Sp), (mg l x).length ≤ l.length + 1
  | [], x => by simp [mg]
  | y :: l, x => by
    simp only [mg]
    split
    · have := mg_len l ⟨min x.lo y.lo, max x.hi y.hi⟩
      simp only [List.length_cons]; omega
    · simp
theorem addG_len : ∀ (l : List Sp) (x : Sp), (addG l x).length ≤ l.length + 1
  | [], x => by simp [addG]
  | y :: l, x => by
    simp only [addG]
    split
    · have := addG_len l x
      simp only [List.length_cons]; omega
    · exact mg_len _ _
theorem addL_len (l : List Sp) (x : Sp) : (addL l x).length ≤ l.length + 1 := by
  unfold addL; split; omega; exact addG_len l x
theorem cut_far : ∀ {l : List Sp} {b : Int} {x : Sp}, Can b l → x.hi ≤ b → l.flatMap (cutP x) = l
  | [], _, _, _, _ => rfl
  | y :: l, b, x, h, hb => by
    obtain ⟨a1, a2, a3⟩ := h
    rw [List.flatMap_cons, cut_far a3 (by omega)]
    unfold cutP
    rw [if_pos (.inr (by omega))]; rfl
theorem cutG_len : ∀ {l : List Sp} {b : Int} {x : Sp}, Can b l → (l.flatMap (cutP x)).length ≤ l.length + 1
  | [], _, _, _ => by simp
  | y :: l, b, x, h => by
    obtain ⟨a1, a2, a3⟩ := h
    have q := cutG_len (x := x) a3
    rw [List.flatMap_cons, List.length_append, List.length_cons]
    by_cases hb : y.lo < x.lo ∧ x.hi < y.hi
    · rw [cut_far a3 (by omega)]
      have : (cutP x y).length ≤ 2 := by
        unfold cutP
        split
        · simp
        · rw [if_pos hb.1, if_pos hb.2]; simp
      omega
    · have : (cutP x y).length ≤ 1 := by
        unfold cutP
        split
        · simp
        · split <;> split <;> first | (exfalso; omega) | simp
      omega
theorem cutL_len {l : List Sp} {b : Int} {x : Sp} (h : Can b l) : (cutL l x).length ≤ l.length + 1 := by
  unfold cutL; split; omega; exact cutG_len h
theorem join_len : ∀ (m l : List Sp), (joinL l m).length ≤ l.length + m.length
  | [], l => Nat.le_refl _
  | x :: m, l => by
    have := join_len m (addL l x)
    have := addL_len l x
    show (joinL (addL l x) m).length ≤ _
    simp only [List.length_cons]; omega
theorem less_len : ∀ {m l : List Sp} {b : Int}, Can b l → (lessL l m).length ≤ l.length + m.length
  | [], l, _, _ => Nat.le_refl _
  | x :: m, l, b, h => by
    have := less_len (m := m) (cutL_ok (x := x) h).1
    have := cutL_len (x := x) h
    show (lessL (cutL l x) m).length ≤ _
    simp only [List.length_cons]; omega
theorem of_len (l : List Sp) : (ofL l).length ≤ l.length := by
  have := join_len l []
  unfold ofL; simpa using this
/-! a set of a type of numbers -/
structure SetM (M : Int) (l : List Sp) : Prop where
  c : Can (-1) l
  u : UpTo M l
def inM (M : Int) (x : Sp) : Prop := (0 ≤ x.lo ∧ x.lo ≤ M) ∧ (0 ≤ x.hi ∧ x.hi ≤ M)
theorem SetM.at {M : Int} {l : List Sp} (h : SetM M l) {i : Nat} {y : Sp} (hi : l[i]? = some y) : inM M y ∧ y.lo ≤ y.hi := by
  have h1 := can_at h.c hi
  have h2 := h.u y (List.mem_of_getElem? hi)
  unfold inM; omega
theorem SetM.add {M : Int} {l : List Sp} (h : SetM M l) {x : Sp} (hx : inM M x) : SetM M (addL l x) := by
  unfold inM at hx
  have q := addL_ok (x := x) h.c (by omega)
  exact ⟨q.1, upto_mem (fun n hn => by rcases (q.2 n).1 hn with h1 | h1; exact mem_upto h.u h1; omega) q.1⟩
theorem SetM.cut {M : Int} {l : List Sp} (h : SetM M l) (x : Sp) : SetM M (cutL l x) := by
  have q := cutL_ok (x := x) h.c
  exact ⟨q.1, upto_mem (fun n hn => mem_upto h.u ((q.2 n).1 hn).1) q.1⟩
theorem SetM.ins {M : Int} {l : List Sp} (h : SetM M l) : ∀ x ∈ l, inM M x := fun x hx => by
  obtain ⟨i, hi⟩ := List.mem_iff_getElem?.1 hx
  exact (h.at hi).1
theorem SetM.join {M : Int} : ∀ {m l : List Sp}, SetM M l → (∀ x ∈ m, inM M x) → SetM M (joinL l m)
  | [], _, h, _ => h
  | x :: m, _, h, hm => SetM.join (m := m) (h.add (hm x (List.mem_cons_self ..))) fun z hz => hm z (List.mem_cons_of_mem _ hz)
theorem SetM.less {M : Int} : ∀ {m l : List Sp}, SetM M l → SetM M (lessL l m)
  | [], _, h => h
  | x :: m, _, h => SetM.less (m := m) (h.cut x)
theorem SetM.meet {M : Int} {m l : List Sp} (h : SetM M l) : SetM M (meetL l m) := h.less
theorem setM_nil (M : Int) : SetM M [] := ⟨trivial, fun _ h => by cases h⟩
theorem setM_of {M : Int} {l : List Sp} (h : ∀ x ∈ l, inM M x) : SetM M (ofL l) := (setM_nil M).join h
theorem setM_not {M : Int} (hM : 0 ≤ M) {a : List Sp} : SetM M (notL M a) := (setM_of fun x hx => by simp at hx; subst hx; unfold inM; exact ⟨⟨by show (0 : Int) ≤ 0; omega, hM⟩, ⟨hM, Int.le_refl _⟩⟩).less
theorem SetM.mem {M : Int} {l : List Sp} (h : SetM M l) {n : Int} (hm : mem l n) : 0 ≤ n ∧ n ≤ M := by
  have := h.c.lt hm
  have := mem_upto h.u hm; omega
theorem set_same {M : Int} {l m : List Sp} (h : SetM M l) (g : SetM M m) (e : ∀ n, 0 ≤ n ∧ n ≤ M → (mem l n ↔ mem m n)) : l = m :=
  can_same h.c g.c fun n => ⟨fun q => (e n (h.mem q)).1 q, fun q => (e n (g.mem q)).2 q⟩
theorem mem_not {M : Int} (hM : 0 ≤ M) {a : List Sp} (n : Int) : mem (notL M a) n ↔ (0 ≤ n ∧ n ≤ M) ∧ ¬ mem a n := (not_ok hM).2 n
theorem mem_of {M : Int} {l : List Sp} (h : ∀ x ∈ l, inM M x) (n : Int) : mem (ofL l) n ↔ mem l n := (of_ok (b := -1) fun x hx => by have := h x hx; unfold inM at this; omega).2 n
/-! the laws of sets -/
section
variable {M : Int} {a b : List Sp}
theorem law_notnot (hM : 0 ≤ M) (ha : SetM M a) : notL M (notL M a) = a := set_same (setM_not hM) ha fun n hn => by
  rw [mem_not hM, mem_not hM]
  exact ⟨fun q => Classical.byContradiction fun h => q.2 ⟨hn, h⟩, fun q => ⟨hn, fun h => h.2 q⟩⟩
end
/-! a set and the document's answer -/
def ofR (l : List Sp) (k : Nat) : Bool := l.any fun y => decide (y.lo ≤ (k : Int)) && decide ((k : Int) ≤ y.hi)
theorem ofR_iff {l : List Sp} {k : Nat} : ofR l k = true ↔ mem l (k : Int) := by
  unfold ofR mem
  rw [List.any_eq_true]
  simp
theorem is_of {l : List Sp} (h : ∀ x ∈ l, inM 255 x) : Is (ofL l) (ofR l) := by
  refine ⟨(setM_of h).c, fun n => ?_⟩
  constructor
  · intro q
    have h1 := (setM_of h).mem q
    refine ⟨by omega, ofR_iff.2 ?_⟩
    rw [Int.toNat_of_nonneg h1.1]; exact (mem_of h n).1 q
  · rintro ⟨h1, h2⟩
    have := ofR_iff.1 h2
    rw [Int.toNat_of_nonneg h1.1] at this
    exact (mem_of h n).2 this
theorem Is.setM {l : List Sp} {r : Nat → Bool} (h : Is l r) : SetM 255 l := ⟨h.1, upto_mem (fun n hn => by have := ((h.2 n).1 hn).1; omega) h.1⟩
section
variable {a b : List Sp} {r s : Nat → Bool}
end
/-! all numbers, one by one -/
def numS (y : Sp) : List Int := (List.range (y.hi - y.lo + 1).toNat).map fun (t : Nat) => y.lo + (t : Int)
def numL (l : List Sp) : List Int := l.flatMap numS
theorem numS_mem {y : Sp} {n : Int} : n ∈ numS y ↔ y.lo ≤ n ∧ n ≤ y.hi := by
  unfold numS
  rw [List.mem_map]
  constructor
  · rintro ⟨t, ht, rfl⟩
    rw [List.mem_range] at ht; omega
  · intro h
    exact ⟨(n - y.lo).toNat, List.mem_range.2 (by omega), by omega⟩
theorem numL_mem {l : List Sp} {n : Int} : n ∈ numL l ↔ mem l n := by
  unfold numL mem
  rw [List.mem_flatMap]
  exact ⟨fun ⟨y, hy, h⟩ => ⟨y, hy, numS_mem.1 h⟩, fun ⟨y, hy, h⟩ => ⟨y, hy, numS_mem.2 h⟩⟩
theorem numS_up (y : Sp) : (numS y).Pairwise (· < ·) := by
  unfold numS
  rw [List.pairwise_map]
  exact List.Pairwise.imp (fun h => by omega) List.pairwise_lt_range
theorem numL_up : ∀ {l : List Sp} {b : Int}, Can b l → (numL l).Pairwise (· < ·)
  | [], _, _ => List.Pairwise.nil
  | y :: l, b, h => by
    unfold numL
    rw [List.flatMap_cons, List.pairwise_append]
    refine ⟨numS_up y, numL_up h.2.2, fun a ha c hc => ?_⟩
    have h1 := numS_mem.1 ha
    have h2 := h.2.2.lt (numL_mem.1 hc)
    omega
theorem up_lt {l : List Int} (h : l.Pairwise (· < ·)) {i j : Nat} {a b : Int} (hij : i < j) (ha : l[i]? = some a) (hb : l[j]? = some b) : a < b := by
  obtain ⟨h1, e1⟩ := List.getElem?_eq_some_iff.1 ha
  obtain ⟨h2, e2⟩ := List.getElem?_eq_some_iff.1 hb
  have := List.pairwise_iff_getElem.1 h i j h1 h2 hij
  omega
/-- Where the next one may be, behind so many. -/
def atN (l : List Int) : Nat → Int
  | 0 => 0
  | i + 1 => (l.getD i 0) + 1
theorem atN_s {l : List Int} {i : Nat} {v : Int} (h : l[i]? = some v) : atN l (i + 1) = v + 1 := by
  show l.getD i 0 + 1 = v + 1
  rw [List.getD_eq_getElem?_getD, h]; rfl
theorem at_next {l : List Sp} {r : Nat → Bool} (hI : Is l r) {i : Nat} {v : Int} (h : (numL l)[i]? = some v) : (0 ≤ v ∧ v < 256) ∧ r v.toNat = true ∧ 0 ≤ atN (numL l) i ∧ atN (numL l) i ≤ v ∧ ∀ k : Nat, atN (numL l) i ≤ (k : Int) → (k : Int) < v → r k = false := by
  have hu := numL_up hI.1
  have hm := (hI.2 v).1 (numL_mem.1 (List.mem_of_getElem? h))
  have ha : 0 ≤ atN (numL l) i ∧ atN (numL l) i ≤ v ∧ ∀ j w, j < i → (numL l)[j]? = some w → w < atN (numL l) i := by
    cases i with
    | zero => exact ⟨Int.le_refl _, hm.1.1, fun j w hj => by omega⟩
    | succ i =>
      have hl : i < (numL l).length := by
        rcases Nat.lt_or_ge (i + 1) (numL l).length with q | q
        · omega
        · rw [List.getElem?_eq_none q] at h; cases h
      have e := List.getElem?_eq_getElem hl
      rw [atN_s e]
      have h0 := (hI.2 _).1 (numL_mem.1 (List.mem_of_getElem? e))
      have h1 := up_lt hu (Nat.lt_succ_self i) e h
      refine ⟨by omega, by omega, fun j w hj hw => ?_⟩
      rcases Nat.lt_or_ge j i with q | q
      · have := up_lt hu q hw e; omega
      · obtain rfl : j = i := by omega
        rw [e] at hw; cases hw; omega
  refine ⟨hm.1, hm.2, ha.1, ha.2.1, fun k h1 h2 => ?_⟩
  cases hr : r k with
  | false => rfl
  | true =>
    have h3 : (k : Int) ∈ numL l := numL_mem.2 ((hI.2 k).2 ⟨by omega, by rw [Int.toNat_natCast]; exact hr⟩)
    obtain ⟨j, hj⟩ := List.mem_iff_getElem?.1 h3
    rcases Nat.lt_trichotomy j i with q | q | q
    · have := ha.2.2 j _ q hj; omega
    · subst q; rw [h] at hj; cases hj; omega
    · have := up_lt hu q h hj; omega
theorem at_end {l : List Sp} {r : Nat → Bool} (hI : Is l r) : 0 ≤ atN (numL l) (numL l).length ∧ atN (numL l) (numL l).length ≤ 256 ∧ ∀ k : Nat, atN (numL l) (numL l).length ≤ (k : Int) → k < 256 → r k = false := by
  have hu := numL_up hI.1
  have key : 0 ≤ atN (numL l) (numL l).length ∧ atN (numL l) (numL l).length ≤ 256 ∧ ∀ w ∈ numL l, w < atN (numL l) (numL l).length := by
    cases hn : (numL l).length with
    | zero => exact ⟨Int.le_refl _, by show (0 : Int) ≤ 256; omega, fun w hw => by rw [List.length_eq_zero_iff.1 hn] at hw; cases hw⟩
    | succ n =>
      have e := List.getElem?_eq_getElem (show n < (numL l).length by omega)
      rw [atN_s e]
      have h0 := (hI.2 _).1 (numL_mem.1 (List.mem_of_getElem? e))
      refine ⟨by omega, by omega, fun w hw => ?_⟩
      obtain ⟨j, hj⟩ := List.mem_iff_getElem?.1 hw
      have hjl : j < (numL l).length := by
        rcases Nat.lt_or_ge j (numL l).length with q | q
        · exact q
        · rw [List.getElem?_eq_none q] at hj; cases hj
      rcases Nat.lt_or_ge j n with q | q
      · have := up_lt hu q hj e; omega
      · obtain rfl : j = n := by omega
        rw [e] at hj; cases hj; omega
  refine ⟨key.1, key.2.1, fun k h1 h2 => ?_⟩
  cases hr : r k with
  | false => rfl
  | true =>
    have h3 : (k : Int) ∈ numL l := numL_mem.2 ((hI.2 k).2 ⟨by omega, by rw [Int.toNat_natCast]; exact hr⟩)
    have := key.2.2 _ h3; omega
/-! the next one -/
def nxF (r : Nat → Bool) : Nat → Nat
  | 0 => 256
  | f + 1 => if r (255 - f) = true then 255 - f else nxF r f
theorem nxF_ok {r : Nat → Bool} : ∀ f, f ≤ 256 → (nxF r f = 256 ∧ ∀ k, 256 - f ≤ k → k < 256 → r k = false) ∨ ((256 - f ≤ nxF r f ∧ nxF r f < 256) ∧ r (nxF r f) = true ∧ ∀ k, 256 - f ≤ k → k < nxF r f → r k = false)
  | 0, _ => .inl ⟨rfl, fun k h1 h2 => by omega⟩
  | f + 1, hf => by
    simp only [nxF]
    split
    · rename_i h
      exact .inr ⟨by omega, h, fun k h1 h2 => by omega⟩
    · rename_i h
      have h0 : r (255 - f) = false := by simpa using h
      rcases nxF_ok f (by omega) with ⟨h1, h2⟩ | ⟨h1, h2, h3⟩
      · refine .inl ⟨h1, fun k h4 h5 => ?_⟩
        by_cases q : k = 255 - f
        · subst q; exact h0
        · exact h2 k (by omega) h5
      · refine .inr ⟨by omega, h2, fun k h4 h5 => ?_⟩
        by_cases q : k = 255 - f
        · subst q; exact h0
        · exact h3 k (by omega) h5
theorem next_rel {l : List Sp} {r : Nat → Bool} (hI : Is l r) {n : Nat} (hn : n < 256) : (fdL l n = l.length ∧ nxF r (256 - n) = 256) ∨ ∃ y, l[fdL l n]? = some y ∧ max (n : Int) y.lo = (nxF r (256 - n) : Nat) ∧ nxF r (256 - n) < 256 := by
  have hN := nxF_ok (r := r) (256 - n) (by omega)
  rw [show 256 - (256 - n) = n by omega] at hN
  rcases Nat.lt_or_ge (fdL l n) l.length with hl | hl
  · right
    have e := List.getElem?_eq_getElem hl
    obtain ⟨h1, h2⟩ := next_yes hI.1 e
    have h3 := (hI.2 _).1 h1
    generalize hm : max (n : Int) (l[fdL l n]).lo = m at *
    have h4 : (n : Int) ≤ m := by omega
    refine ⟨_, e, ?_⟩
    rw [hm]
    rcases hN with ⟨a, b⟩ | ⟨a, b, c⟩
    · have := b m.toNat (by omega) (by omega)
      rw [h3.2] at this; cases this
    · refine ⟨?_, a.2⟩
      have h5 := h2 (nxF r (256 - n) : Nat) (by omega) ((hI.2 _).2 ⟨by omega, by rw [Int.toNat_natCast]; exact b⟩)
      rcases Int.lt_or_le m (nxF r (256 - n) : Nat) with q | q
      · have := c m.toNat (by omega) (by omega)
        rw [h3.2] at this; cases this
      · omega
  · left
    have e : fdL l n = l.length := by have := fdL_le l n; omega
    refine ⟨e, ?_⟩
    rcases hN with ⟨a, b⟩ | ⟨a, b, c⟩
    · exact a
    · exact absurd ((hI.2 (nxF r (256 - n) : Nat)).2 ⟨by omega, by rw [Int.toNat_natCast]; exact b⟩) (next_no e _ (by omega))
theorem has_rel {l : List Sp} {r : Nat → Bool} (hI : Is l r) {n : Nat} (hn : n < 256) : mem l n ↔ r n = true := by
  rw [hI.2, Int.toNat_natCast]; exact ⟨fun h => h.2, fun h => ⟨by omega, h⟩⟩
/-! cells -/
abbrev spB (y : Sp) : List V := [.sc (.int .u8 y.lo), .sc (.int .u8 y.hi)]
abbrev spQ (y : Sp) : List V := [.sc (.int .u64 y.lo), .sc (.int .u64 y.hi)]
theorem oat {l : List Sp} {i : Nat} (h : (i : Int) < l.length) : l[i]? = some (at' l (i : Int)) := by
  rw [List.getElem?_eq_getElem (by omega), at_nat _ _ (by omega)]
theorem sat {M : Int} {l : List Sp} (hs : SetM M l) {i : Nat} (h : (i : Int) < l.length) : (0 ≤ (at' l (i : Int)).lo ∧ (at' l (i : Int)).hi ≤ M) ∧ (at' l (i : Int)).lo ≤ (at' l (i : Int)).hi := by
  have := hs.at (oat h)
  unfold inM at this; omega
theorem odrop {l : List Sp} {i : Nat} (h : (i : Int) < l.length) : l.drop i = at' l (i : Int) :: l.drop (i + 1) := by
  rw [List.drop_eq_getElem_cons (by omega), at_nat _ _ (by omega)]
theorem vle_os {e k : Nat} {xs ys : List (List V)} (h : xs = ys) : VLe (.own e xs k) (.sl e ys) := by subst h; exact VLe.own_sl _ _ _
theorem mn_ (a b : Int) : (if b < a then b else a) = min a b := by split <;> omega
theorem mx_ (a b : Int) : (if b > a then b else a) = max a b := by split <;> omega
theorem add_s {l : List Sp} {i : Nat} {x : Sp} (h0 : addG l x = l.take i ++ addG (l.drop i) x) (h : (i : Int) < l.length) (h1 : (at' l (i : Int)).hi + 1 < x.lo) : addG l x = l.take (i + 1) ++ addG (l.drop (i + 1)) x := by
  rw [h0, odrop h, List.take_add_one, oat h]
  simp only [addG]
  rw [if_pos h1]; simp
theorem add_m {l : List Sp} {i : Nat} {x : Sp} (h : (i : Int) < l.length → ¬ (at' l (i : Int)).hi + 1 < x.lo) : addG (l.drop i) x = mg (l.drop i) x := by
  rcases Nat.lt_or_ge i l.length with q | q
  · rw [odrop (by omega)]
    simp only [addG]
    rw [if_neg (h (by omega))]
  · rw [List.drop_of_length_le q]; rfl
theorem mg_s {l : List Sp} {j : Nat} {z : Sp} {A : List Sp} (h0 : A = mg (l.drop j) z) (h : (j : Int) < l.length) (h1 : (at' l (j : Int)).lo ≤ z.hi + 1) : A = mg (l.drop (j + 1)) ⟨min z.lo (at' l (j : Int)).lo, max z.hi (at' l (j : Int)).hi⟩ := by
  rw [h0, odrop h]; simp only [mg]; rw [if_pos h1]
theorem mg_e {l : List Sp} {j : Nat} {z : Sp} {A : List Sp} (h0 : A = mg (l.drop j) z) (h : (j : Int) < l.length → ¬ (at' l (j : Int)).lo ≤ z.hi + 1) : A = z :: l.drop j := by
  rw [h0]
  rcases Nat.lt_or_ge j l.length with q | q
  · rw [odrop (by omega)]; simp only [mg]; rw [if_neg (h (by omega))]
  · rw [List.drop_of_length_le q]; rfl
theorem cut_s {l : List Sp} {i : Nat} {x : Sp} (h : (i : Int) < l.length) : (l.take (i + 1)).flatMap (cutP x) = (l.take i).flatMap (cutP x) ++ cutP x (at' l (i : Int)) := by
  rw [List.take_add_one, oat h, List.flatMap_append]; simp
theorem cut_1 {x y : Sp} (h : y.hi < x.lo ∨ x.hi < y.lo) : cutP x y = [y] := if_pos h
theorem cut_2 {x y : Sp} (h : ¬ (y.hi < x.lo ∨ x.hi < y.lo)) : cutP x y = (if y.lo < x.lo then [⟨y.lo, x.lo - 1⟩] else []) ++ (if x.hi < y.hi then [⟨x.hi + 1, y.hi⟩] else []) := if_neg h
theorem cut_n (l : List Sp) (i : Nat) (x : Sp) : ((l.take i).flatMap (cutP x)).length ≤ 2 * l.length := by
  have key : ∀ m : List Sp, (m.flatMap (cutP x)).length ≤ 2 * m.length := by
    intro m
    induction m with
    | nil => exact Nat.le_refl _
    | cons y m ih =>
      rw [List.flatMap_cons, List.length_append, List.length_cons]
      have : (cutP x y).length ≤ 2 := by
        unfold cutP
        split
        · simp
        · split <;> split <;> simp
      omega
  have h := key (l.take i)
  have := List.length_take_le i l
  rw [List.length_take] at *; omega
theorem addL_n {l : List Sp} {x : Sp} (h : x.lo > x.hi) : addL l x = l := if_pos h
theorem addL_y {l : List Sp} {x : Sp} (h : ¬ x.lo > x.hi) : addL l x = addG l x := if_neg h
theorem cutL_n {l : List Sp} {x : Sp} (h : x.lo > x.hi) : cutL l x = l := if_pos h
theorem cutL_y {l : List Sp} {x : Sp} (h : ¬ x.lo > x.hi) : cutL l x = l.flatMap (cutP x) := if_neg h
end Go.Proofs.Ytgnbdegpljbckaa
