/- Walks by the logic of values. -/
import Derived.Test.YtjmfdddeoadpaaaKbVmT
import Derived.Test.YtjmfdddeoadpaaaKbVmP
import Derived.Test.YtjmfdddeoadpaaaKbVmW
namespace Go.Proofs.Ytjmfdddeoadpaaa
open Go.Vm
set_option linter.unusedVariables false
set_option linter.unusedSimpArgs false
/-! pages as functions -/
abbrev Pf := Nat → Nat
structure Sl where
  is : Bool
  b : List Int
deriving Inhabited, DecidableEq
def sA (f : Pf) (i : Nat) : Nat := f (2 + 2 * i)
def sN (f : Pf) (i : Nat) : Nat := f (3 + 2 * i)
def seg (f : Pf) (i k : Nat) : Prop := 0 < sA f i ∧ sA f i ≤ k ∧ k < sA f i + sN f i
instance (f : Pf) (i k : Nat) : Decidable (seg f i k) := inferInstanceAs (Decidable (_ ∧ _ ∧ _))
def txt (f : Pf) (i : Nat) : List Int := (List.range (sN f i)).map fun t => (f (sA f i + t) : Int)
def sl (f : Pf) (i : Nat) : Sl := if 0 < sA f i then ⟨true, txt f i⟩ else ⟨false, []⟩
def ab (f : Pf) : List Sl := (List.range (f 0)).map (sl f)
structure Snd (f : Pf) : Prop where
  b : ∀ k, f k < 256
  l32 : f 0 ≤ 32
  lo1 : 2 + 2 * f 0 ≤ f 1
  lo2 : f 1 ≤ 224
  z : ∀ i, i < f 0 → sA f i = 0 → sN f i = 0
  r : ∀ i, i < f 0 → 0 < sA f i → f 1 ≤ sA f i ∧ sA f i + sN f i ≤ 224
  d : ∀ i j k, i < f 0 → j < f 0 → seg f i k → seg f j k → i = j
  c : ∀ k, 2 + 2 * f 0 ≤ k → k < 224 → f k ≠ 0 → ∃ i, i < f 0 ∧ seg f i k
theorem ab_len (f : Pf) : (ab f).length = f 0 := by simp [ab]
theorem ab_get {f : Pf} {i : Nat} (h : i < f 0) : (ab f)[i]? = some (sl f i) := by
  unfold ab; rw [List.getElem?_map, List.getElem?_range h]; rfl
theorem ab_of {f : Pf} {m : List Sl} (h0 : m.length = f 0) (h : ∀ i, i < f 0 → m[i]? = some (sl f i)) : ab f = m := by
  refine List.ext_getElem? fun i => ?_
  rcases Nat.lt_or_ge i (f 0) with hi | hi
  · rw [ab_get hi, h i hi]
  · rw [List.getElem?_eq_none (by rw [ab_len]; exact hi), List.getElem?_eq_none (by omega)]
theorem txt_len (f : Pf) (i : Nat) : (txt f i).length = sN f i := by simp [txt]
theorem sl_is {f : Pf} {i : Nat} : (sl f i).is = decide (0 < sA f i) := by
  unfold sl; split
  · rename_i h; exact (decide_eq_true h).symm
  · rename_i h; exact (decide_eq_false h).symm
theorem sl_pos {f : Pf} {i : Nat} (h : 0 < sA f i) : sl f i = ⟨true, txt f i⟩ := if_pos h
theorem sl_zero {f : Pf} {i : Nat} (h : sA f i = 0) : sl f i = ⟨false, []⟩ := if_neg (by omega)
theorem sl_len {f : Pf} {i : Nat} (hz : sA f i = 0 → sN f i = 0) : (sl f i).b.length = sN f i := by
  by_cases h : 0 < sA f i
  · rw [sl_pos h]; exact txt_len f i
  · rw [sl_zero (by omega), hz (by omega)]; rfl
theorem sl_same {f g : Pf} {i j : Nat} (ha : sA g j = sA f i) (hn : sN g j = sN f i) (ht : 0 < sA f i → ∀ t, t < sN f i → g (sA f i + t) = f (sA f i + t)) : sl g j = sl f i := by
  unfold sl
  rw [ha]
  split
  · rename_i h
    congr 1
    unfold txt
    rw [hn, ha]
    exact List.map_congr_left fun t h2 => by rw [ht h t (List.mem_range.1 h2)]
  · rfl
/-! sums -/
def usd (f : Pf) : Nat → Nat
  | 0 => 0
  | i + 1 => usd f i + (if 0 < sA f i then sN f i else 0)
def usdR (m : List Sl) : Nat := (m.map fun s => s.b.length).sum
theorem usd_R {f : Pf} (hz : ∀ i, i < f 0 → sA f i = 0 → sN f i = 0) : usd f (f 0) = usdR (ab f) := by
  have key : ∀ n, n ≤ f 0 → usd f n = ((List.range n).map fun i => (sl f i).b.length).sum := by
    intro n
    induction n with
    | zero => intro _; rfl
    | succ n ih =>
      intro hn
      rw [List.range_succ, List.map_append, List.sum_append, ← ih (by omega)]
      simp only [usd, List.map_cons, List.map_nil, List.sum_cons, List.sum_nil, Nat.add_zero]
      rw [sl_len (hz n (by omega))]
      split
      · rfl
      · rename_i h; rw [hz n (by omega) (by omega)]
  rw [key (f 0) (Nat.le_refl _)]
  unfold usdR ab
  rw [List.map_map]
  rfl
theorem usdR_set : ∀ (m : List Sl) (i : Nat) (s x : Sl), m[i]? = some s → usdR (m.set i x) + s.b.length = usdR m + x.b.length
  | [], i, s, x, h => by simp at h
  | a :: m, 0, s, x, h => by
    simp at h; subst h
    simp only [List.set_cons_zero, usdR, List.map_cons, List.sum_cons]; omega
  | a :: m, i + 1, s, x, h => by
    have ih := usdR_set m i s x (by simpa using h)
    simp only [List.set_cons_succ, usdR, List.map_cons, List.sum_cons] at ih ⊢; omega
theorem usd_mono (f : Pf) {i j : Nat} (h : i ≤ j) : usd f i ≤ usd f j := by
  induction j with
  | zero => obtain rfl : i = 0 := by omega
            exact Nat.le_refl _
  | succ j ih =>
    rcases Nat.lt_or_ge j i with h2 | h2
    · obtain rfl : i = j + 1 := by omega
      exact Nat.le_refl _
    · have := ih h2; simp only [usd]; omega
theorem usd_s {f : Pf} {i : Nat} (h : 0 < sA f i) : usd f (i + 1) = usd f i + sN f i := by simp only [usd]; rw [if_pos h]
theorem usd_z {f : Pf} {i : Nat} (h : sA f i = 0) : usd f (i + 1) = usd f i := by simp only [usd]; rw [if_neg (by omega)]; rfl
def cnt (f : Pf) : Nat → Nat → Nat
  | 0, _ => 0
  | i + 1, k => cnt f i k + (if seg f i k then 1 else 0)
theorem cnt_zero {f : Pf} {n k : Nat} : cnt f n k = 0 ↔ ∀ i, i < n → ¬ seg f i k := by
  induction n with
  | zero => exact ⟨fun _ i hi => by omega, fun _ => rfl⟩
  | succ n ih =>
    simp only [cnt]
    constructor
    · intro h i hi hs
      by_cases h2 : i = n
      · subst h2; rw [if_pos hs] at h; omega
      · exact (ih.1 (by omega)) i (by omega) hs
    · intro h
      rw [ih.2 fun i hi => h i (by omega), if_neg (h n (by omega))]
theorem cnt_one {f : Pf} {n k : Nat} : cnt f n k ≤ 1 ↔ ∀ i j, i < n → j < n → seg f i k → seg f j k → i = j := by
  induction n with
  | zero => exact ⟨fun _ i j hi => by omega, fun _ => by simp [cnt]⟩
  | succ n ih =>
    simp only [cnt]
    constructor
    · intro h i j hi hj si sj
      by_cases hn : seg f n k
      · rw [if_pos hn] at h
        have h0 := cnt_zero.1 (show cnt f n k = 0 by omega)
        have e1 : i = n := Decidable.byContradiction fun q => h0 i (by omega) si
        have e2 : j = n := Decidable.byContradiction fun q => h0 j (by omega) sj
        omega
      · have e1 : i ≠ n := fun q => hn (q ▸ si)
        have e2 : j ≠ n := fun q => hn (q ▸ sj)
        exact ih.1 (by omega) i j (by omega) (by omega) si sj
    · intro h
      have h1 := ih.2 fun i j hi hj => h i j (by omega) (by omega)
      by_cases hn : seg f n k
      · have h0 : cnt f n k = 0 := cnt_zero.2 fun i hi si => by have := h i n (by omega) (by omega) si hn; omega
        rw [h0]; split <;> omega
      · rw [if_neg hn]; omega
def sumK (g : Nat → Nat) : Nat → Nat
  | 0 => 0
  | m + 1 => sumK g m + g m
theorem sumK_add (g h : Nat → Nat) (m : Nat) : sumK (fun k => g k + h k) m = sumK g m + sumK h m := by
  induction m with
  | zero => rfl
  | succ m ih => simp only [sumK, ih]; omega
theorem sumK_le {g : Nat → Nat} {lo : Nat} (h0 : ∀ k, k < lo → g k = 0) (h1 : ∀ k, g k ≤ 1) (m : Nat) : sumK g m ≤ m - lo := by
  induction m with
  | zero => simp [sumK]
  | succ m ih =>
    simp only [sumK]
    have := h1 m
    rcases Nat.lt_or_ge m lo with h | h
    · rw [h0 m h]; omega
    · omega
theorem sumK_seg (f : Pf) (i : Nat) (m : Nat) : sumK (fun k => if seg f i k then 1 else 0) m = if 0 < sA f i then min m (sA f i + sN f i) - min m (sA f i) else 0 := by
  induction m with
  | zero => simp [sumK]
  | succ m ih =>
    simp only [sumK, ih]
    by_cases hs : seg f i m
    · rw [if_pos hs]; unfold seg at hs; rw [if_pos hs.1, if_pos hs.1]; omega
    · rw [if_neg hs]
      unfold seg at hs
      by_cases h : 0 < sA f i
      · rw [if_pos h, if_pos h]; omega
      · rw [if_neg h, if_neg h]
theorem usd_le {f : Pf} (hs : Snd f) : usd f (f 0) ≤ 224 - f 1 := by
  have key : ∀ n, n ≤ f 0 → sumK (cnt f n) 224 = usd f n := by
    intro n
    induction n with
    | zero =>
      intro _
      have : ∀ m, sumK (cnt f 0) m = 0 := fun m => by induction m with | zero => rfl | succ m ih => show sumK (cnt f 0) m + cnt f 0 m = 0; rw [ih]; rfl
      exact this 224
    | succ n ih =>
      intro hn
      have e : cnt f (n + 1) = fun k => cnt f n k + (if seg f n k then 1 else 0) := by funext k; rfl
      rw [e, sumK_add, ih (by omega), sumK_seg]
      by_cases h : 0 < sA f n
      · have := hs.r n (by omega) h
        rw [if_pos h, usd_s h]; omega
      · rw [if_neg h, usd_z (by omega)]; rfl
  rw [← key (f 0) (Nat.le_refl _)]
  refine sumK_le (fun k hk => ?_) (fun k => ?_) 224
  · refine cnt_zero.2 fun i hi hseg => ?_
    have := hs.r i hi hseg.1
    have := hseg.2.1
    omega
  · exact cnt_one.2 fun i j hi hj => hs.d i j k hi hj
/-! what is written -/
def setS (g : Pf) (i a n : Nat) : Pf := fun k => if k = 2 + 2 * i then a else if k = 3 + 2 * i then n else g k
def upN (g : Pf) (q v : Nat) : Pf := fun k => if k = q then v else g k
def cpB (g : Pf) (a : Nat) (b : List Int) : Pf := fun k => if a ≤ k ∧ k < a + b.length then (b.getD (k - a) 0).toNat else g k
def clr (g : Pf) (a n : Nat) : Pf := fun k => if a ≤ k ∧ k < a + n then 0 else g k
def cpF (g : Pf) (lo at_ n : Nat) (f : Pf) : Pf := fun k => if lo ≤ k ∧ k < lo + n then f (at_ + (k - lo)) else g k
def plc (g : Pf) (b : List Int) (i n a : Nat) : Pf := setS (upN (upN (cpB g a b) 0 n) 1 a) i a b.length
theorem setS_out {g : Pf} {i a n k : Nat} (h : k < 2 ∨ 4 + 2 * i ≤ k ∨ k < 2 + 2 * i) : setS g i a n k = g k := by unfold setS; rw [if_neg (by omega), if_neg (by omega)]
theorem setS_a (g : Pf) (i a n : Nat) : sA (setS g i a n) i = a := by unfold sA setS; rw [if_pos rfl]
theorem setS_n (g : Pf) (i a n : Nat) : sN (setS g i a n) i = n := by unfold sN setS; rw [if_neg (by omega), if_pos rfl]
theorem setS_a' {g : Pf} {i a n j : Nat} (h : j ≠ i) : sA (setS g i a n) j = sA g j := by unfold sA setS; rw [if_neg (by omega), if_neg (by omega)]
theorem setS_n' {g : Pf} {i a n j : Nat} (h : j ≠ i) : sN (setS g i a n) j = sN g j := by unfold sN setS; rw [if_neg (by omega), if_neg (by omega)]
theorem txt_b {g : Pf} {i : Nat} {b : List Int} (hb : Byts b) (hn : sN g i = b.length) (h : ∀ t, t < b.length → g (sA g i + t) = (b.getD t 0).toNat) : txt g i = b := by
  unfold txt
  rw [hn]
  refine List.ext_getElem (by simp) fun t h1 h2 => ?_
  rw [List.getElem_map, List.getElem_range, h t h2, List.getD_eq_getElem?_getD, List.getElem?_eq_getElem h2]
  have := hb _ (List.getElem_mem h2)
  show ((b[t]).toNat : Int) = b[t]
  omega
theorem plc_at {g : Pf} {b : List Int} {i n a k : Nat} (hk : 2 + 2 * n ≤ k) (hi : i < n) : plc g b i n a k = if a ≤ k ∧ k < a + b.length then (b.getD (k - a) 0).toNat else g k := by
  unfold plc
  rw [setS_out (by omega)]
  unfold upN
  rw [if_neg (by omega), if_neg (by omega)]
  rfl
theorem getD_lt {b : List Int} (hb : Byts b) (t : Nat) : (b.getD t 0).toNat < 256 := by
  rw [List.getD_eq_getElem?_getD]
  rcases Nat.lt_or_ge t b.length with h | h
  · rw [List.getElem?_eq_getElem h]; have := hb _ (List.getElem_mem h); simp only [Option.getD_some]; omega
  · rw [List.getElem?_eq_none h]; simp
theorem place {g : Pf} {b : List Int} {i n a : Nat} (hs : Snd g) (hi : i ≤ g 0) (hn : n = max (g 0) (i + 1)) (h32 : n ≤ 32) (he : i < g 0 → sA g i = 0) (hb : Byts b) (hb2 : b.length ≤ 224) (ha : a + b.length = g 1) (hl : 2 + 2 * n ≤ a) :
    Snd (plc g b i n a) ∧ plc g b i n a 0 = n ∧ plc g b i n a 1 = a ∧ ∀ j, j < n → sl (plc g b i n a) j = if j = i then ⟨true, b⟩ else sl g j := by
  have h0 : plc g b i n a 0 = n := by unfold plc; rw [setS_out (by omega)]; unfold upN; rw [if_neg (by omega), if_pos rfl]
  have h1 : plc g b i n a 1 = a := by unfold plc; rw [setS_out (by omega)]; unfold upN; rw [if_pos rfl]
  have hlo := hs.lo2
  have hin : i < n := by omega
  have ai : sA (plc g b i n a) i = a := setS_a _ _ _ _
  have ni : sN (plc g b i n a) i = b.length := setS_n _ _ _ _
  have aj : ∀ j, j ≠ i → j < n → sA (plc g b i n a) j = sA g j := fun j hj hjn => by
    unfold plc; rw [setS_a' hj]; unfold sA upN cpB; rw [if_neg (by omega), if_neg (by omega), if_neg (by omega)]
  have nj : ∀ j, j ≠ i → j < n → sN (plc g b i n a) j = sN g j := fun j hj hjn => by
    unfold plc; rw [setS_n' hj]; unfold sN upN cpB; rw [if_neg (by omega), if_neg (by omega), if_neg (by omega)]
  have sj : ∀ j k, j ≠ i → j < n → (seg (plc g b i n a) j k ↔ seg g j k) := fun j k hj hjn => by unfold seg; rw [aj j hj hjn, nj j hj hjn]
  have old : ∀ j, j ≠ i → j < n → j < g 0 := fun j hj hjn => by omega
  refine ⟨⟨fun k => ?_, by omega, by omega, by omega, fun j hj hz => ?_, fun j hj hp => ?_, fun p q k hp hq s1 s2 => ?_, fun k hk hk2 hne => ?_⟩, h0, h1, fun j hj => ?_⟩
  · unfold plc setS upN cpB
    have := hs.b k
    have := getD_lt hb (k - a)
    repeat' split
    all_goals omega
  · rw [h0] at hj
    by_cases hji : j = i
    · subst hji; omega
    · rw [aj j hji hj] at hz; rw [nj j hji hj]; exact hs.z j (old j hji hj) hz
  · rw [h0] at hj
    rw [h1]
    by_cases hji : j = i
    · subst hji; omega
    · rw [aj j hji hj] at hp ⊢; rw [nj j hji hj]; have := hs.r j (old j hji hj) hp; omega
  · rw [h0] at hp hq
    by_cases hpi : p = i
    · by_cases hqi : q = i
      · omega
      · subst hpi
        have e1 := s1.2
        rw [ai, ni] at e1
        have e2 := (sj q k hqi hq).1 s2
        have e3 := hs.r q (old q hqi hq) e2.1
        have e4 := e2.2.1
        omega
    · by_cases hqi : q = i
      · subst hqi
        have e1 := s2.2
        rw [ai, ni] at e1
        have e2 := (sj p k hpi hp).1 s1
        have e3 := hs.r p (old p hpi hp) e2.1
        have e4 := e2.2.1
        omega
      · exact hs.d p q k (old p hpi hp) (old q hqi hq) ((sj p k hpi hp).1 s1) ((sj q k hqi hq).1 s2)
  · rw [h0] at hk
    rw [plc_at hk hin] at hne
    rw [h0]
    by_cases hc : a ≤ k ∧ k < a + b.length
    · exact ⟨i, hin, by rw [ai]; omega, by rw [ai]; omega, by rw [ai, ni]; omega⟩
    · rw [if_neg hc] at hne
      obtain ⟨j, hj, hsj⟩ := hs.c k (by omega) hk2 hne
      have hji : j ≠ i := fun q => by subst q; have := he hj; have := hsj.1; omega
      exact ⟨j, by omega, (sj j k hji (by omega)).2 hsj⟩
  · by_cases hji : j = i
    · subst hji
      rw [if_pos rfl, sl_pos (by rw [ai]; omega)]
      congr 1
      refine txt_b hb ni fun t ht => ?_
      rw [ai, plc_at (by omega) hin, if_pos (by omega), show a + t - a = t by omega]
    · rw [if_neg hji]
      refine sl_same (aj j hji hj) (nj j hji hj) fun hp t ht => ?_
      have := hs.r j (old j hji hj) hp
      rw [plc_at (by omega) hin, if_neg (by omega)]
/-! what is cleared -/
def clS (f : Pf) (i : Nat) : Pf := setS (clr f (sA f i) (sN f i)) i 0 0
theorem clear_ {f : Pf} {i : Nat} (hs : Snd f) (hi : i < f 0) (hp : 0 < sA f i) : Snd (clS f i) ∧ clS f i 0 = f 0 ∧ clS f i 1 = f 1 ∧ sA (clS f i) i = 0 ∧ ∀ j, j < f 0 → sl (clS f i) j = if j = i then ⟨false, []⟩ else sl f j := by
  have hr := hs.r i hi hp
  have l1 := hs.lo1
  have h0 : clS f i 0 = f 0 := by unfold clS; rw [setS_out (by omega)]; unfold clr; rw [if_neg (by omega)]
  have h1 : clS f i 1 = f 1 := by unfold clS; rw [setS_out (by omega)]; unfold clr; rw [if_neg (by omega)]
  have ai : sA (clS f i) i = 0 := setS_a _ _ _ _
  have ni : sN (clS f i) i = 0 := setS_n _ _ _ _
  have aj : ∀ j, j ≠ i → j < f 0 → sA (clS f i) j = sA f j := fun j hj hjn => by
    unfold clS; rw [setS_a' hj]; show clr f _ _ _ = _; unfold clr; rw [if_neg (by omega)]; rfl
  have nj : ∀ j, j ≠ i → j < f 0 → sN (clS f i) j = sN f j := fun j hj hjn => by
    unfold clS; rw [setS_n' hj]; show clr f _ _ _ = _; unfold clr; rw [if_neg (by omega)]; rfl
  have sj : ∀ j k, j ≠ i → j < f 0 → (seg (clS f i) j k ↔ seg f j k) := fun j k hj hjn => by unfold seg; rw [aj j hj hjn, nj j hj hjn]
  have si : ∀ k, ¬ seg (clS f i) i k := fun k q => by have := q.1; omega
  have hk' : ∀ k, 2 + 2 * f 0 ≤ k → clS f i k = if sA f i ≤ k ∧ k < sA f i + sN f i then 0 else f k := fun k hk => by unfold clS; rw [setS_out (by omega)]; rfl
  refine ⟨⟨fun k => ?_, by rw [h0]; exact hs.l32, by rw [h0, h1]; exact hs.lo1, by rw [h1]; exact hs.lo2, fun j hj hz => ?_, fun j hj hq => ?_, fun p q k hp' hq s1 s2 => ?_, fun k hk hk2 hne => ?_⟩, h0, h1, ai, fun j hj => ?_⟩
  · unfold clS setS clr
    have := hs.b k
    repeat' split
    all_goals omega
  · rw [h0] at hj
    by_cases hji : j = i
    · subst hji; exact ni
    · rw [aj j hji hj] at hz; rw [nj j hji hj]; exact hs.z j hj hz
  · rw [h0] at hj
    by_cases hji : j = i
    · subst hji; omega
    · rw [aj j hji hj] at hq ⊢; rw [nj j hji hj, h1]; exact hs.r j hj hq
  · rw [h0] at hp' hq
    have e1 : p ≠ i := fun e => si k (e ▸ s1)
    have e2 : q ≠ i := fun e => si k (e ▸ s2)
    exact hs.d p q k hp' hq ((sj p k e1 hp').1 s1) ((sj q k e2 hq).1 s2)
  · rw [h0] at hk ⊢
    rw [hk' k hk] at hne
    by_cases hc : sA f i ≤ k ∧ k < sA f i + sN f i
    · rw [if_pos hc] at hne; omega
    · rw [if_neg hc] at hne
      obtain ⟨j, hj, hsj⟩ := hs.c k hk hk2 hne
      have hji : j ≠ i := fun e => hc (by subst e; exact hsj.2)
      exact ⟨j, hj, (sj j k hji hj).2 hsj⟩
  · by_cases hji : j = i
    · subst hji; rw [if_pos rfl, sl_zero ai]
    · rw [if_neg hji]
      refine sl_same (aj j hji hj) (nj j hji hj) fun hpj t ht => ?_
      have h2 := hs.r j hj hpj
      rw [hk' _ (by omega), if_neg]
      intro q
      exact hji (hs.d j i (sA f j + t) hj hi ⟨hpj, by omega, by omega⟩ ⟨hp, q.1, q.2⟩)
/-! a text in the place of another one -/
def rpl (f : Pf) (i : Nat) (b : List Int) : Pf := setS (cpB (clr f (sA f i) (sN f i)) (sA f i) b) i (sA f i) b.length
theorem reput {f : Pf} {i : Nat} {b : List Int} (hs : Snd f) (hi : i < f 0) (hp : 0 < sA f i) (hb : Byts b) (hl : b.length ≤ sN f i) : Snd (rpl f i b) ∧ rpl f i b 0 = f 0 ∧ rpl f i b 1 = f 1 ∧ ∀ j, j < f 0 → sl (rpl f i b) j = if j = i then ⟨true, b⟩ else sl f j := by
  have hr := hs.r i hi hp
  have l1 := hs.lo1
  have hk' : ∀ k, k < 2 + 2 * f 0 → cpB (clr f (sA f i) (sN f i)) (sA f i) b k = f k := fun k hk => by unfold cpB clr; rw [if_neg (by omega), if_neg (by omega)]
  have h0 : rpl f i b 0 = f 0 := by unfold rpl; rw [setS_out (by omega), hk' 0 (by omega)]
  have h1 : rpl f i b 1 = f 1 := by unfold rpl; rw [setS_out (by omega), hk' 1 (by omega)]
  have ai : sA (rpl f i b) i = sA f i := setS_a _ _ _ _
  have ni : sN (rpl f i b) i = b.length := setS_n _ _ _ _
  have aj : ∀ j, j ≠ i → j < f 0 → sA (rpl f i b) j = sA f j := fun j hj hjn => by unfold rpl; rw [setS_a' hj]; exact hk' _ (by omega)
  have nj : ∀ j, j ≠ i → j < f 0 → sN (rpl f i b) j = sN f j := fun j hj hjn => by unfold rpl; rw [setS_n' hj]; exact hk' _ (by omega)
  have sj : ∀ j k, j ≠ i → j < f 0 → (seg (rpl f i b) j k ↔ seg f j k) := fun j k hj hjn => by unfold seg; rw [aj j hj hjn, nj j hj hjn]
  have si : ∀ k, seg (rpl f i b) i k → seg f i k := fun k q => by unfold seg at q ⊢; rw [ai, ni] at q; omega
  have hat : ∀ k, 2 + 2 * f 0 ≤ k → rpl f i b k = if sA f i ≤ k ∧ k < sA f i + b.length then (b.getD (k - sA f i) 0).toNat else if sA f i ≤ k ∧ k < sA f i + sN f i then 0 else f k := fun k hk => by unfold rpl; rw [setS_out (by omega)]; rfl
  have se : ∀ j k, j < f 0 → seg (rpl f i b) j k → seg f j k := fun j k hj q => by
    by_cases hji : j = i
    · subst hji; exact si k q
    · exact (sj j k hji hj).1 q
  refine ⟨⟨fun k => ?_, by rw [h0]; exact hs.l32, by rw [h0, h1]; exact hs.lo1, by rw [h1]; exact hs.lo2, fun j hj hz => ?_, fun j hj hq => ?_, fun p q k hp' hq s1 s2 => ?_, fun k hk hk2 hne => ?_⟩, h0, h1, fun j hj => ?_⟩
  · unfold rpl setS cpB clr
    have := hs.b k
    have := getD_lt hb (k - sA f i)
    repeat' split
    all_goals omega
  · rw [h0] at hj
    by_cases hji : j = i
    · subst hji; omega
    · rw [aj j hji hj] at hz; rw [nj j hji hj]; exact hs.z j hj hz
  · rw [h0] at hj
    by_cases hji : j = i
    · subst hji; rw [ai, ni, h1]; omega
    · rw [aj j hji hj] at hq ⊢; rw [nj j hji hj, h1]; exact hs.r j hj hq
  · rw [h0] at hp' hq
    exact hs.d p q k hp' hq (se p k hp' s1) (se q k hq s2)
  · rw [h0] at hk ⊢
    rw [hat k hk] at hne
    by_cases hc : sA f i ≤ k ∧ k < sA f i + b.length
    · exact ⟨i, hi, by rw [ai]; exact hp, by rw [ai]; exact hc.1, by rw [ai, ni]; exact hc.2⟩
    · rw [if_neg hc] at hne
      by_cases hc2 : sA f i ≤ k ∧ k < sA f i + sN f i
      · rw [if_pos hc2] at hne; omega
      · rw [if_neg hc2] at hne
        obtain ⟨j, hj, hsj⟩ := hs.c k hk hk2 hne
        have hji : j ≠ i := fun e => hc2 (by subst e; exact hsj.2)
        exact ⟨j, hj, (sj j k hji hj).2 hsj⟩
  · by_cases hji : j = i
    · subst hji
      rw [if_pos rfl, sl_pos (by rw [ai]; exact hp)]
      congr 1
      refine txt_b hb ni fun t ht => ?_
      rw [ai, hat _ (by omega), if_pos (by omega), show sA f j + t - sA f j = t by omega]
    · rw [if_neg hji]
      refine sl_same (aj j hji hj) (nj j hji hj) fun hpj t ht => ?_
      have h2 := hs.r j hj hpj
      have hno : ¬ (sA f i ≤ sA f j + t ∧ sA f j + t < sA f i + sN f i) := fun q => hji (hs.d j i (sA f j + t) hj hi ⟨hpj, by omega, by omega⟩ ⟨hp, q.1, q.2⟩)
      rw [hat _ (by omega), if_neg (by omega), if_neg hno]
/-! slots at the end that have no text -/
def strN (h : Pf) : Nat → Nat
  | 0 => 0
  | n + 1 => if 0 < sA h n then n + 1 else strN h n
theorem strN_le (h : Pf) : ∀ n, strN h n ≤ n
  | 0 => Nat.le_refl _
  | n + 1 => by unfold strN; split; exact Nat.le_refl _; have := strN_le h n; omega
theorem strN_z (h : Pf) : ∀ n j, strN h n ≤ j → j < n → sA h j = 0
  | 0, j, _, h2 => by omega
  | n + 1, j, h1, h2 => by
    unfold strN at h1
    split at h1
    · omega
    · by_cases e : j = n
      · subst e; omega
      · exact strN_z h n j h1 (by omega)
theorem strip {h : Pf} {L : Nat} (hs : Snd h) (hL : L ≤ h 0) (hz : ∀ j, L ≤ j → j < h 0 → sA h j = 0) : Snd (upN h 0 L) ∧ upN h 0 L 0 = L ∧ upN h 0 L 1 = h 1 ∧ ∀ j, sl (upN h 0 L) j = sl h j := by
  have l1 := hs.lo1
  have h0 : upN h 0 L 0 = L := if_pos rfl
  have hk : ∀ k, k ≠ 0 → upN h 0 L k = h k := fun k e => if_neg e
  have aj : ∀ j, sA (upN h 0 L) j = sA h j := fun j => hk _ (by omega)
  have nj : ∀ j, sN (upN h 0 L) j = sN h j := fun j => hk _ (by omega)
  have sj : ∀ j k, seg (upN h 0 L) j k ↔ seg h j k := fun j k => by unfold seg; rw [aj j, nj j]
  refine ⟨⟨fun k => ?_, by rw [h0]; have := hs.l32; omega, by rw [h0, hk 1 (by omega)]; omega, by rw [hk 1 (by omega)]; exact hs.lo2, fun j hj hz' => ?_, fun j hj hq => ?_, fun p q k hp' hq s1 s2 => ?_, fun k hk1 hk2 hne => ?_⟩, h0, hk 1 (by omega), fun j => ?_⟩
  · have := hs.b k; have := hs.b 0
    unfold upN; split
    · have := hs.l32; omega
    · omega
  · rw [h0] at hj; rw [aj] at hz'; rw [nj]; exact hs.z j (by omega) hz'
  · rw [h0] at hj; rw [aj] at hq ⊢; rw [nj, hk 1 (by omega)]; exact hs.r j (by omega) hq
  · rw [h0] at hp' hq; exact hs.d p q k (by omega) (by omega) ((sj p k).1 s1) ((sj q k).1 s2)
  · rw [h0] at hk1 ⊢
    rw [hk k (by omega)] at hne
    rcases Nat.lt_or_ge k (2 + 2 * h 0) with hc | hc
    · exfalso
      -- a byte of a slot without a text
      have hj1 : L ≤ (k - 2) / 2 := by omega
      have hj2 : (k - 2) / 2 < h 0 := by omega
      have e1 := hz _ hj1 hj2
      have e2 := hs.z _ hj2 e1
      unfold sA at e1; unfold sN at e2
      rcases Nat.mod_two_eq_zero_or_one k with hm | hm
      · rw [show 2 + 2 * ((k - 2) / 2) = k by omega] at e1; exact hne e1
      · rw [show 3 + 2 * ((k - 2) / 2) = k by omega] at e2; exact hne e2
    · obtain ⟨j, hj, hsj⟩ := hs.c k hc hk2 hne
      refine ⟨j, ?_, (sj j k).2 hsj⟩
      rcases Nat.lt_or_ge j L with e | e
      · exact e
      · have := hz j e hj; have := hsj.1; omega
  · refine sl_same (aj j) (nj j) fun _ t _ => hk _ (by have := aj j; unfold sA at *; omega)
/-! all side by side -/
def pkI (f : Pf) : Nat → Pf
  | 0 => fun k => if k = 0 then f 0 else if k = 1 then 224 else 0
  | i + 1 => if 0 < sA f i then setS (cpF (pkI f i) (224 - usd f (i + 1)) (sA f i) (sN f i) f) i (224 - usd f (i + 1)) (sN f i) else pkI f i
def pk (f : Pf) : Pf := upN (pkI f (f 0)) 1 (224 - usd f (f 0))
structure PkI (f : Pf) (i : Nat) : Prop where
  h0 : pkI f i 0 = f 0
  h1 : pkI f i 1 = 224
  b : ∀ k, pkI f i k < 256
  a : ∀ j, j < i → 0 < sA f j → sA (pkI f i) j = 224 - usd f (j + 1) ∧ sN (pkI f i) j = sN f j
  a0 : ∀ j, j < f 0 → (i ≤ j ∨ sA f j = 0) → sA (pkI f i) j = 0 ∧ sN (pkI f i) j = 0
  t : ∀ j, j < i → 0 < sA f j → ∀ t, t < sN f j → pkI f i (224 - usd f (j + 1) + t) = f (sA f j + t)
  z : ∀ k, 2 + 2 * f 0 ≤ k → k < 224 - usd f i → pkI f i k = 0
  cov : ∀ k, 224 - usd f i ≤ k → k < 224 → ∃ j, j < i ∧ 0 < sA f j ∧ 224 - usd f (j + 1) ≤ k ∧ k < 224 - usd f (j + 1) + sN f j
theorem pkI_ok {f : Pf} (hs : Snd f) : ∀ i, i ≤ f 0 → PkI f i := by
  have hu := usd_le hs
  have hlo := hs.lo1
  have hlo2 := hs.lo2
  intro i
  induction i with
  | zero =>
    intro _
    have hb0 := hs.b 0
    refine ⟨by simp [pkI], ?_, fun k => ?_, fun j hj => by omega, fun j hj _ => ?_, fun j hj => by omega, fun k hk _ => ?_, fun k hk hk2 => by simp only [usd] at hk; omega⟩
    · show (if 1 = 0 then f 0 else if 1 = 1 then 224 else 0) = 224
      simp
    · show (if k = 0 then f 0 else if k = 1 then 224 else 0) < 256
      split
      · exact hb0
      · split <;> omega
    · constructor
      · show (if 2 + 2 * j = 0 then f 0 else if 2 + 2 * j = 1 then 224 else 0) = 0
        rw [if_neg (by omega), if_neg (by omega)]
      · show (if 3 + 2 * j = 0 then f 0 else if 3 + 2 * j = 1 then 224 else 0) = 0
        rw [if_neg (by omega), if_neg (by omega)]
    · show (if k = 0 then f 0 else if k = 1 then 224 else 0) = 0
      rw [if_neg (by omega), if_neg (by omega)]
  | succ i ih =>
    intro hi
    have I := ih (by omega)
    have hm := usd_mono f (show i + 1 ≤ f 0 from hi)
    by_cases hp : 0 < sA f i
    · have us := usd_s hp
      have hr := hs.r i (by omega) hp
      obtain ⟨lo, hlo_⟩ : ∃ lo, lo = 224 - usd f (i + 1) := ⟨_, rfl⟩
      have e : pkI f (i + 1) = setS (cpF (pkI f i) lo (sA f i) (sN f i) f) i lo (sN f i) := by rw [hlo_]; exact if_pos hp
      have hlow : 2 + 2 * f 0 ≤ lo := by omega
      have aj : ∀ j, j ≠ i → j < f 0 → sA (pkI f (i + 1)) j = sA (pkI f i) j := fun j hj hjn => by
        rw [e, setS_a' hj]; show cpF _ _ _ _ _ _ = _; unfold cpF; rw [if_neg (by omega)]; rfl
      have nj : ∀ j, j ≠ i → j < f 0 → sN (pkI f (i + 1)) j = sN (pkI f i) j := fun j hj hjn => by
        rw [e, setS_n' hj]; show cpF _ _ _ _ _ _ = _; unfold cpF; rw [if_neg (by omega)]; rfl
      have hat : ∀ k, 2 + 2 * f 0 ≤ k → pkI f (i + 1) k = if lo ≤ k ∧ k < lo + sN f i then f (sA f i + (k - lo)) else pkI f i k := fun k hk => by
        rw [e, setS_out (by omega)]; rfl
      refine ⟨?_, ?_, fun k => ?_, fun j hj hpj => ?_, fun j hj hz => ?_, fun j hj hpj t ht => ?_, fun k hk hk2 => ?_, fun k hk hk2 => ?_⟩
      · rw [e, setS_out (by omega)]; unfold cpF; rw [if_neg (by omega)]; exact I.h0
      · rw [e, setS_out (by omega)]; unfold cpF; rw [if_neg (by omega)]; exact I.h1
      · rw [e]
        have := I.b k
        have := hs.b (sA f i + (k - lo))
        have := hs.b (3 + 2 * i)
        unfold setS cpF
        have e3 : sN f i = f (3 + 2 * i) := rfl
        repeat' split
        all_goals omega
      · by_cases hji : j = i
        · subst hji; rw [e, setS_a, setS_n, hlo_]; exact ⟨rfl, rfl⟩
        · rw [aj j hji (by omega), nj j hji (by omega)]; exact I.a j (by omega) hpj
      · have hji : j ≠ i := fun q => by subst q; omega
        rw [aj j hji hj, nj j hji hj]; exact I.a0 j hj (by omega)
      · by_cases hji : j = i
        · subst hji
          rw [← hlo_, hat _ (by omega), if_pos (by omega), show lo + t - lo = t by omega]
        · have m1 := usd_mono f (show j + 1 ≤ i by omega)
          have m2 := usd_s hpj
          rw [hat _ (by omega), if_neg (by omega)]
          exact I.t j (by omega) hpj t ht
      · rw [hat k hk, if_neg (by omega)]; exact I.z k hk (by omega)
      · by_cases hc : k < lo + sN f i
        · exact ⟨i, by omega, hp, by omega, by omega⟩
        · obtain ⟨j, q1, q2, q3, q4⟩ := I.cov k (by omega) hk2
          exact ⟨j, by omega, q2, q3, q4⟩
    · have e : pkI f (i + 1) = pkI f i := if_neg hp
      have us := usd_z (f := f) (i := i) (by omega)
      have hne : ∀ j, j < i + 1 → 0 < sA f j → j < i := fun j h1 h2 => by
        rcases Nat.lt_or_ge j i with q | q
        · exact q
        · obtain rfl : j = i := by omega
          omega
      refine ⟨by rw [e]; exact I.h0, by rw [e]; exact I.h1, by rw [e]; exact I.b, fun j hj hpj => by rw [e]; exact I.a j (hne j hj hpj) hpj, fun j hj hz => ?_, fun j hj hpj => by rw [e]; exact I.t j (hne j hj hpj) hpj, fun k hk hk2 => by rw [e]; exact I.z k hk (by omega), fun k hk hk2 => ?_⟩
      · rw [e]
        refine I.a0 j hj ?_
        rcases hz with h | h
        · left; omega
        · right; exact h
      · obtain ⟨j, q1, q2, q3, q4⟩ := I.cov k (by omega) hk2
        exact ⟨j, by omega, q2, q3, q4⟩
theorem pack_ {f : Pf} (hs : Snd f) : Snd (pk f) ∧ pk f 0 = f 0 ∧ pk f 1 = 224 - usd f (f 0) ∧ (∀ j, j < f 0 → sl (pk f) j = sl f j) ∧ (∀ j, j < f 0 → 0 < sA f j → sA (pk f) j = 224 - usd f (j + 1)) ∧ (∀ j, j < f 0 → sN (pk f) j = sN f j) ∧ (∀ k, 2 + 2 * f 0 ≤ k → k < 224 - usd f (f 0) → pk f k = 0) := by
  have hu := usd_le hs
  have l1 := hs.lo1
  have l2 := hs.lo2
  have I := pkI_ok hs (f 0) (Nat.le_refl _)
  have hk : ∀ k, k ≠ 1 → pk f k = pkI f (f 0) k := fun k e => if_neg e
  have h0 : pk f 0 = f 0 := (hk 0 (by omega)).trans I.h0
  have h1 : pk f 1 = 224 - usd f (f 0) := by simp [pk, upN]
  have aj : ∀ j, sA (pk f) j = sA (pkI f (f 0)) j := fun j => hk _ (by omega)
  have nj : ∀ j, sN (pk f) j = sN (pkI f (f 0)) j := fun j => hk _ (by omega)
  have aP : ∀ j, j < f 0 → 0 < sA f j → sA (pk f) j = 224 - usd f (j + 1) := fun j hj hp => (aj j).trans (I.a j hj hp).1
  have nP : ∀ j, j < f 0 → sN (pk f) j = sN f j := fun j hj => by
    rw [nj j]
    by_cases hp : 0 < sA f j
    · exact (I.a j hj hp).2
    · rw [(I.a0 j hj (.inr (by omega))).2, hs.z j hj (by omega)]
  have aZ : ∀ j, j < f 0 → sA f j = 0 → sA (pk f) j = 0 := fun j hj hz => (aj j).trans (I.a0 j hj (.inr hz)).1
  have pos : ∀ j, j < f 0 → 0 < sA (pk f) j → 0 < sA f j := fun j hj hp => by
    rcases Nat.eq_zero_or_pos (sA f j) with h | h
    · have := aZ j hj h; omega
    · exact h
  have hm : ∀ j, j < f 0 → usd f (j + 1) ≤ usd f (f 0) := fun j hj => usd_mono f (by omega)
  refine ⟨⟨fun k => ?_, by rw [h0]; exact hs.l32, by rw [h0, h1]; omega, by rw [h1]; omega, fun j hj hz => ?_, fun j hj hp => ?_, fun p q k hp hq s1 s2 => ?_, fun k hk1 hk2 hne => ?_⟩, h0, h1, fun j hj => ?_, aP, nP, fun k hk1 hk2 => (hk k (by omega)).trans (I.z k hk1 hk2)⟩
  · unfold pk upN
    split
    · omega
    · exact I.b k
  · rw [h0] at hj
    have hz2 : sA f j = 0 := by
      rcases Nat.eq_zero_or_pos (sA f j) with h | h
      · exact h
      · have := aP j hj h; have := hm j hj; omega
    rw [nP j hj, hs.z j hj hz2]
  · rw [h0] at hj
    have hp2 := pos j hj hp
    rw [aP j hj hp2, nP j hj, h1]
    have := hm j hj
    have := usd_s hp2
    omega
  · rw [h0] at hp hq
    have p1 := pos p hp s1.1
    have q1 := pos q hq s2.1
    have a1 := s1.2
    have a2 := s2.2
    rw [aP p hp p1, nP p hp] at a1
    rw [aP q hq q1, nP q hq] at a2
    have u1 := usd_s p1
    have u2 := usd_s q1
    have v1 := hm p hp
    have v2 := hm q hq
    rcases Nat.lt_trichotomy p q with h | h | h
    · have := usd_mono f (show p + 1 ≤ q by omega); omega
    · exact h
    · have := usd_mono f (show q + 1 ≤ p by omega); omega
  · rw [h0] at hk1 ⊢
    rcases Nat.lt_or_ge k (224 - usd f (f 0)) with hc | hc
    · exact absurd ((hk k (by omega)).trans (I.z k hk1 hc)) hne
    · obtain ⟨j, q1, q2, q3, q4⟩ := I.cov k hc hk2
      refine ⟨j, q1, ?_, ?_, ?_⟩
      · rw [aP j q1 q2]; have := hm j q1; omega
      · rw [aP j q1 q2]; exact q3
      · rw [aP j q1 q2, nP j q1]; exact q4
  · by_cases hp : 0 < sA f j
    · have hm' := hm j hj
      unfold sl
      rw [if_pos hp, if_pos (by rw [aP j hj hp]; omega)]
      congr 1
      unfold txt
      rw [nP j hj]
      refine List.map_congr_left fun t ht => ?_
      rw [aP j hj hp, hk _ (by omega), I.t j hj hp t (List.mem_range.1 ht)]
    · rw [sl_zero (by omega : sA f j = 0), sl_zero (aZ j hj (by omega))]
theorem ab_pk {f : Pf} (hs : Snd f) : ab (pk f) = ab f := by
  obtain ⟨_, h0, _, h, _⟩ := pack_ hs
  refine ab_of (by rw [ab_len, h0]) fun i hi => ?_
  rw [h0] at hi
  rw [ab_get hi, h i hi]
/-! the acts -/
def freR : List Sl → Nat
  | [] => 0
  | s :: m => if s.is = true then freR m + 1 else 0
def fr (f : Pf) : Nat := freR (ab f)
theorem freR_le : ∀ m : List Sl, freR m ≤ m.length
  | [] => Nat.le_refl _
  | s :: m => by unfold freR; have := freR_le m; split <;> simp; omega
theorem freR_spec : ∀ (m : List Sl) (i : Nat) (s : Sl), m[i]? = some s → (i < freR m → s.is = true) ∧ (i = freR m → s.is = false)
  | [], i, s, h => by simp at h
  | a :: m, 0, s, h => by
    simp at h; subst h
    unfold freR
    cases ha : a.is with
    | true => simp
    | false => simp
  | a :: m, i + 1, s, h => by
    have ih := freR_spec m i s (by simpa using h)
    unfold freR
    cases ha : a.is with
    | true => simp; exact ⟨ih.1, ih.2⟩
    | false => simp
theorem freR_eq {m : List Sl} {i : Nat} (h1 : ∀ j, j < i → ∀ s, m[j]? = some s → s.is = true) (hi : i ≤ m.length) (h2 : ∀ s, m[i]? = some s → s.is = false) : freR m = i := by
  have hle := freR_le m
  rcases Nat.lt_trichotomy (freR m) i with h | h | h
  · have hm : freR m < m.length := by omega
    have := freR_spec m _ _ (List.getElem?_eq_getElem hm)
    have a := this.2 rfl
    have b := h1 _ h _ (List.getElem?_eq_getElem hm)
    rw [a] at b; cases b
  · exact h
  · have hm : i < m.length := by omega
    have := freR_spec m _ _ (List.getElem?_eq_getElem hm)
    have a := this.1 h
    have b := h2 _ (List.getElem?_eq_getElem hm)
    rw [a] at b; cases b
def roomR (m : List Sl) : Int := if 32 < (if freR m = m.length then m.length + 1 else m.length) ∨ 224 - 2 - 2 * ((if freR m = m.length then m.length + 1 else m.length : Nat) : Int) - usdR m < 0 then -1 else 224 - 2 - 2 * ((if freR m = m.length then m.length + 1 else m.length : Nat) : Int) - usdR m
def setR (m : List Sl) (i : Nat) (s : Sl) : List Sl := if i = m.length then m ++ [s] else m.set i s
theorem setR_get {m : List Sl} {i : Nat} {s : Sl} (hi : i ≤ m.length) (j : Nat) (hj : j < max m.length (i + 1)) : (setR m i s)[j]? = if j = i then some s else m[j]? := by
  unfold setR
  by_cases h : i = m.length
  · rw [if_pos h]
    by_cases hj2 : j = i
    · rw [if_pos hj2, List.getElem?_append_right (by omega), show j - m.length = 0 by omega]; rfl
    · rw [if_neg hj2, List.getElem?_append_left (by omega)]
  · rw [if_neg h]
    by_cases hj2 : j = i
    · subst hj2; rw [if_pos rfl, List.getElem?_set_self (by omega)]
    · rw [if_neg hj2, List.getElem?_set_ne (fun q => hj2 q.symm)]
theorem setR_len {m : List Sl} {i : Nat} {s : Sl} (hi : i ≤ m.length) : (setR m i s).length = max m.length (i + 1) := by
  unfold setR
  split
  · simp; omega
  · simp; omega
def addF (f : Pf) (b : List Int) : Pf := (fun g => plc g b (fr f) (max (f 0) (fr f + 1)) (g 1 - b.length)) (if (f 1 : Int) - b.length < 2 + 2 * (max (f 0) (fr f + 1) : Nat) then pk f else f)
theorem add_ok {f : Pf} {b : List Int} (hs : Snd f) (hb : Byts b) (hl : b.length ≤ 224) (hr : (b.length : Int) ≤ roomR (ab f)) : Snd (addF f b) ∧ ab (addF f b) = setR (ab f) (fr f) ⟨true, b⟩ := by
  have hfl : fr f ≤ f 0 := by have := freR_le (ab f); rw [ab_len] at this; exact this
  have hu := usd_le hs
  have hR := usd_R hs.z
  have hl0 := ab_len f
  obtain ⟨n, hn⟩ : ∃ n, n = max (f 0) (fr f + 1) := ⟨_, rfl⟩
  have hn2 : (if freR (ab f) = (ab f).length then (ab f).length + 1 else (ab f).length) = n := by
    rw [ab_len]; show (if fr f = f 0 then _ else _) = n; split <;> omega
  have hroom : n ≤ 32 ∧ (b.length : Int) ≤ 224 - 2 - 2 * (n : Int) - usd f (f 0) := by
    unfold roomR at hr
    rw [hn2, ← hR] at hr
    split at hr
    · omega
    · omega
  have he : fr f < f 0 → sA f (fr f) = 0 := fun h => by
    have := (freR_spec (ab f) _ _ (ab_get h)).2 rfl
    rw [sl_is] at this
    have := of_decide_eq_false this
    omega
  have key : ∀ g : Pf, Snd g → g 0 = f 0 → (∀ j, j < f 0 → sl g j = sl f j) → (fr f < f 0 → sA g (fr f) = 0) → b.length + 2 + 2 * n ≤ g 1 → Snd (plc g b (fr f) n (g 1 - b.length)) ∧ ab (plc g b (fr f) n (g 1 - b.length)) = setR (ab f) (fr f) ⟨true, b⟩ := by
    intro g hg g0 gs ga g1
    have hP := place (g := g) (b := b) (i := fr f) (n := n) (a := g 1 - b.length) hg (by omega) (by rw [g0]; exact hn) hroom.1 (fun h => ga (by omega)) hb hl (by omega) (by omega)
    refine ⟨hP.1, ab_of (by rw [setR_len (by rw [ab_len]; exact hfl), ab_len, hP.2.1, hn]) fun i hi => ?_⟩
    rw [hP.2.1] at hi
    rw [setR_get (by rw [ab_len]; exact hfl) i (by rw [ab_len]; omega), hP.2.2.2 i hi]
    by_cases hif : i = fr f
    · rw [if_pos hif, if_pos hif]
    · rw [if_neg hif, if_neg hif, gs i (by omega)]
      exact ab_get (by omega)
  unfold addF
  simp only []
  rw [← hn]
  split
  · obtain ⟨s2, h0, h1, h, ha, hn', hz⟩ := pack_ hs
    refine key (pk f) s2 h0 h (fun hlt => ?_) (by rw [h1]; omega)
    have h2 := h _ hlt
    have h3 : (sl (pk f) (fr f)).is = (sl f (fr f)).is := by rw [h2]
    rw [sl_is, sl_is] at h3
    have h4 := he hlt
    rw [decide_eq_false (by omega : ¬ 0 < sA f (fr f))] at h3
    have := of_decide_eq_false h3
    omega
  · exact key f hs rfl (fun _ _ => rfl) he (by omega)
def hasR (m : List Sl) (i : Int) : Bool := decide (0 ≤ i ∧ i < m.length) && (m.getD i.toNat default).is
theorem has_ab {f : Pf} {i : Nat} (hi : i < f 0) : hasR (ab f) (i : Int) = decide (0 < sA f i) := by
  unfold hasR
  rw [ab_len, decide_eq_true (by omega), Bool.true_and, Int.toNat_natCast, List.getD_eq_getElem?_getD, ab_get hi]
  exact sl_is
def stripN (m : List Sl) : Nat → Nat
  | 0 => 0
  | n + 1 => if (m.getD n default).is = true then n + 1 else stripN m n
def dropF (f : Pf) (i : Nat) : Pf := upN (clS f i) 0 (strN (clS f i) (f 0))
theorem drop_ok {f : Pf} {i : Nat} (hs : Snd f) (hi : i < f 0) (hp : 0 < sA f i) : Snd (dropF f i) ∧ ab (dropF f i) = ((ab f).set i ⟨false, []⟩).take (stripN ((ab f).set i ⟨false, []⟩) (f 0)) := by
  obtain ⟨c1, c2, c3, c4, c5⟩ := clear_ hs hi hp
  have hle := strN_le (clS f i) (f 0)
  obtain ⟨d1, d2, d3, d4⟩ := strip (L := strN (clS f i) (f 0)) c1 (by rw [c2]; exact hle) (fun j h1 h2 => strN_z (clS f i) (f 0) j h1 (by omega))
  have hset : ∀ j, j < f 0 → ((ab f).set i ⟨false, []⟩)[j]? = some (sl (clS f i) j) := fun j hj => by
    rw [c5 j hj]
    by_cases hji : j = i
    · subst hji; rw [if_pos rfl, List.getElem?_set_self (by rw [ab_len]; exact hi)]
    · rw [if_neg hji, List.getElem?_set_ne (fun q => hji q.symm), ab_get hj]
  have hsn : ∀ n, n ≤ f 0 → stripN ((ab f).set i ⟨false, []⟩) n = strN (clS f i) n := by
    intro n
    induction n with
    | zero => intro _; rfl
    | succ n ih =>
      intro hn
      unfold stripN strN
      rw [List.getD_eq_getElem?_getD, hset n (by omega), Option.getD_some, sl_is, ih (by omega)]
      by_cases h : 0 < sA (clS f i) n
      · rw [if_pos h, if_pos (decide_eq_true h)]
      · rw [if_neg h, if_neg (by simpa using h)]
  refine ⟨d1, ab_of ?_ fun j hj => ?_⟩
  · rw [List.length_take, List.length_set, ab_len, hsn _ (Nat.le_refl _)]
    show min _ _ = upN (clS f i) 0 _ 0
    rw [d2]; omega
  · have hj' : j < strN (clS f i) (f 0) := by rw [← d2]; exact hj
    rw [List.getElem?_take, if_pos (by rw [hsn _ (Nat.le_refl _)]; exact hj'), hset j (by omega)]
    exact congrArg some (d4 j).symm
def putF (f : Pf) (i : Nat) (b : List Int) : Pf := if b.length ≤ sN f i then rpl f i b else (fun g => setS (upN (cpB g (g 1 - b.length) b) 1 (g 1 - b.length)) i (g 1 - b.length) b.length) (if (f 1 : Int) - b.length < 2 + 2 * (f 0 : Int) then pk (clS f i) else clS f i)
theorem put_ok {f : Pf} {i : Nat} {b : List Int} (hs : Snd f) (hi : i < f 0) (hp : 0 < sA f i) (hb : Byts b) (hl : b.length ≤ 224) (hr : (b.length : Int) ≤ 224 - 2 - 2 * (f 0 : Int) - usd f (f 0) + sN f i) : Snd (putF f i b) ∧ ab (putF f i b) = (ab f).set i ⟨true, b⟩ := by
  have hset : ∀ (g : Pf), g 0 = f 0 → (∀ j, j < f 0 → sl g j = if j = i then ⟨true, b⟩ else sl f j) → ab g = (ab f).set i ⟨true, b⟩ := fun g g0 h => by
    refine ab_of (by rw [List.length_set, ab_len, g0]) fun j hj => ?_
    rw [g0] at hj
    rw [h j hj]
    by_cases hji : j = i
    · subst hji; rw [if_pos rfl, List.getElem?_set_self (by rw [ab_len]; exact hi)]
    · rw [if_neg hji, List.getElem?_set_ne (fun q => hji q.symm), ab_get hj]
  unfold putF
  split
  · rename_i hle
    obtain ⟨r1, r2, r3, r4⟩ := reput hs hi hp hb hle
    exact ⟨r1, hset _ r2 r4⟩
  · rename_i hgt
    obtain ⟨c1, c2, c3, c4, c5⟩ := clear_ hs hi hp
    -- what all others have
    have hus : usd (clS f i) (f 0) + sN f i = usd f (f 0) := by
      have e1 := usd_R hs.z
      have e2 := usd_R c1.z
      rw [c2] at e2
      have e3 : ab (clS f i) = (ab f).set i ⟨false, []⟩ := ab_of (by rw [List.length_set, ab_len, c2]) fun j hj => by
        rw [c2] at hj
        rw [c5 j hj]
        by_cases hji : j = i
        · subst hji; rw [if_pos rfl, List.getElem?_set_self (by rw [ab_len]; exact hi)]
        · rw [if_neg hji, List.getElem?_set_ne (fun q => hji q.symm), ab_get hj]
      have e4 := usdR_set (ab f) i (sl f i) ⟨false, []⟩ (ab_get hi)
      rw [sl_len (hs.z i hi)] at e4
      rw [e2, e3, e1]
      simpa using e4
    have key : ∀ g : Pf, Snd g → g 0 = f 0 → (∀ j, j < f 0 → sl g j = sl (clS f i) j) → sA g i = 0 → b.length + 2 + 2 * f 0 ≤ g 1 → Snd (setS (upN (cpB g (g 1 - b.length) b) 1 (g 1 - b.length)) i (g 1 - b.length) b.length) ∧ ab (setS (upN (cpB g (g 1 - b.length) b) 1 (g 1 - b.length)) i (g 1 - b.length) b.length) = (ab f).set i ⟨true, b⟩ := by
      intro g hg g0 gs ga g1
      have hP := place (g := g) (b := b) (i := i) (n := f 0) (a := g 1 - b.length) hg (by omega) (by omega) hs.l32 (fun _ => ga) hb hl (by omega) (by omega)
      have hl2 := hg.lo2
      have e : upN (cpB g (g 1 - b.length) b) 0 (f 0) = cpB g (g 1 - b.length) b := by
        funext k
        unfold upN
        split
        · rename_i h; subst h; unfold cpB; rw [if_neg (by omega)]; exact g0.symm
        · rfl
      have e2 : plc g b i (f 0) (g 1 - b.length) = setS (upN (cpB g (g 1 - b.length) b) 1 (g 1 - b.length)) i (g 1 - b.length) b.length := by
        unfold plc; rw [e]
      rw [e2] at hP
      refine ⟨hP.1, hset _ hP.2.1 fun j hj => ?_⟩
      rw [hP.2.2.2 j hj]
      by_cases hji : j = i
      · rw [if_pos hji, if_pos hji]
      · rw [if_neg hji, if_neg hji, gs j hj, c5 j hj, if_neg hji]
    simp only []
    split
    · obtain ⟨s2, h0, h1, h, ha, hn', hz⟩ := pack_ c1
      rw [c2] at h0 h1 h
      refine key (pk (clS f i)) s2 h0 h ?_ (by rw [h1]; have := usd_le c1; omega)
      have h2 := h i hi
      have h3 : (sl (pk (clS f i)) i).is = (sl (clS f i) i).is := by rw [h2]
      rw [sl_is, sl_is, decide_eq_false (by omega : ¬ 0 < sA (clS f i) i)] at h3
      have := of_decide_eq_false h3
      omega
    · exact key (clS f i) c1 c2 (fun _ _ => rfl) c4 (by rw [c3]; omega)
/-! is it a page? -/
def okS (f : Pf) (i : Nat) : Bool := !((decide (sA f i = 0) && decide (0 < sN f i)) || (decide (0 < sA f i) && (decide (sA f i < f 1) || decide (224 < sA f i + sN f i))))
def okK (f : Pf) (k : Nat) : Bool := !(decide (1 < cnt f (f 0) k) || (decide (cnt f (f 0) k = 0) && !decide (f k = 0)))
def sndF (f : Pf) : Bool := decide (f 0 ≤ 32 ∧ 2 + 2 * f 0 ≤ f 1 ∧ f 1 ≤ 224) && (List.range (f 0)).all (okS f) && (List.range 224).all (fun k => decide (k < 2 + 2 * f 0) || okK f k)
theorem snd_iff {f : Pf} (hb : ∀ k, f k < 256) : sndF f = true ↔ Snd f := by
  unfold sndF
  rw [Bool.and_eq_true, Bool.and_eq_true, List.all_eq_true, List.all_eq_true, decide_eq_true_eq]
  constructor
  · rintro ⟨⟨⟨h1, h2, h3⟩, h4⟩, h5⟩
    have h4' : ∀ i, i < f 0 → okS f i = true := fun i hi => h4 i (List.mem_range.2 hi)
    have h5' : ∀ k, 2 + 2 * f 0 ≤ k → k < 224 → okK f k = true := fun k hk1 hk2 => by
      have := h5 k (List.mem_range.2 hk2)
      rw [decide_eq_false (by omega), Bool.false_or] at this
      exact this
    refine ⟨hb, h1, h2, h3, fun i hi hz => ?_, fun i hi hp => ?_, fun i j k hi hj s1 s2 => ?_, fun k hk1 hk2 hne => ?_⟩
    · have := h4' i hi
      unfold okS at this
      simp only [Bool.not_eq_true', Bool.or_eq_false_iff, Bool.and_eq_false_iff, decide_eq_false_iff_not] at this
      omega
    · have := h4' i hi
      unfold okS at this
      simp only [Bool.not_eq_true', Bool.or_eq_false_iff, Bool.and_eq_false_iff, decide_eq_false_iff_not] at this
      omega
    · have hri := h4' i hi
      unfold okS at hri
      simp only [Bool.not_eq_true', Bool.or_eq_false_iff, Bool.and_eq_false_iff, decide_eq_false_iff_not] at hri
      have q1 := s1.1
      have q2 := s1.2
      have := h5' k (by omega) (by omega)
      unfold okK at this
      simp only [Bool.not_eq_true', Bool.or_eq_false_iff, decide_eq_false_iff_not] at this
      exact cnt_one.1 (show cnt f (f 0) k ≤ 1 by omega) i j hi hj s1 s2
    · have := h5' k hk1 hk2
      unfold okK at this
      simp only [Bool.not_eq_true', Bool.or_eq_false_iff, Bool.and_eq_false_iff, decide_eq_false_iff_not, Bool.not_eq_false', decide_eq_true_eq] at this
      have h0 : ¬ cnt f (f 0) k = 0 := fun q => by
        rcases this.2 with h | h
        · exact h q
        · exact hne h
      refine Decidable.byContradiction fun q => h0 (cnt_zero.2 fun i hi hs => q ⟨i, hi, hs⟩)
  · intro h
    refine ⟨⟨⟨h.l32, h.lo1, h.lo2⟩, fun i hi => ?_⟩, fun k hk => ?_⟩
    · have hi' := List.mem_range.1 hi
      have z := h.z i hi'
      have r := h.r i hi'
      unfold okS
      simp only [Bool.not_eq_true', Bool.or_eq_false_iff, Bool.and_eq_false_iff, decide_eq_false_iff_not]
      omega
    · have hk' := List.mem_range.1 hk
      rcases Nat.lt_or_ge k (2 + 2 * f 0) with hc | hc
      · rw [decide_eq_true hc]; rfl
      · rw [decide_eq_false (by omega), Bool.false_or]
        have c1 := cnt_one.2 fun i j hi hj => h.d i j k hi hj
        unfold okK
        simp only [Bool.not_eq_true', Bool.or_eq_false_iff, Bool.and_eq_false_iff, decide_eq_false_iff_not, Bool.not_eq_false', decide_eq_true_eq]
        refine ⟨by omega, ?_⟩
        by_cases hne : f k = 0
        · right; exact hne
        · left
          intro q
          obtain ⟨i, hi, hs⟩ := h.c k hc hk' hne
          exact cnt_zero.1 q i hi hs
def newF : Pf := fun k => if k = 1 then 224 else 0
theorem new_snd : Snd newF := by
  have h0 : newF 0 = 0 := rfl
  have h1 : newF 1 = 224 := rfl
  refine ⟨fun k => by unfold newF; split <;> omega, by rw [h0]; omega, by rw [h0, h1]; omega, by rw [h1]; omega, fun i hi => by omega, fun i hi => by omega, fun i j k hi => by omega, fun k hk _ hne => ?_⟩
  exact absurd (show newF k = 0 from if_neg (by omega)) hne
theorem new_ab : ab newF = [] := rfl
/-! pages' cells -/
def pgC (f : Pf) : List V := (List.range 224).map fun k => .sc (.int .u8 (f k : Int))
theorem pgC_len (f : Pf) : (pgC f).length = 224 := by simp [pgC]
theorem bd_pg (n : Nat) (f : Pf) : bdL n (pgC f) := bdL_all fun v hv => by obtain ⟨k, _, rfl⟩ := List.mem_map.1 hv; trivial
theorem bd_pgA (n : Nat) (f : Pf) : V.bd n (.agg (pgC f)) := bd_pg n f
theorem pg_q {f : Pf} {q k : Nat} (h : q = k) (hk : k < 224) : (pgC f)[q]? = some (.sc (.int .u8 (f k : Int))) := by
  subst h; unfold pgC; rw [List.getElem?_map, List.getElem?_range hk]; rfl
theorem pg_ext {f g : Pf} (h : ∀ k, k < 224 → f k = g k) : pgC f = pgC g := by
  unfold pgC
  exact List.map_congr_left fun k hk => by rw [h k (List.mem_range.1 hk)]
theorem pg_of {xs : List V} {f : Pf} (hl : xs.length = 224) (h : ∀ k, k < 224 → xs[k]? = some (.sc (.int .u8 (f k : Int)))) : xs = pgC f := by
  refine List.ext_getElem? fun k => ?_
  rcases Nat.lt_or_ge k 224 with hk | hk
  · rw [h k hk, pg_q rfl hk]
  · rw [List.getElem?_eq_none (by omega), List.getElem?_eq_none (by rw [pgC_len]; exact hk)]
theorem pg_set {f : Pf} {q k v : Nat} (h : q = k) : (pgC f).set q (.sc (.int .u8 (v : Int))) = pgC (upN f k v) := by
  subst h
  refine pg_of (by rw [List.length_set, pgC_len]) fun j hj => ?_
  unfold upN
  by_cases hq : j = q
  · subst hq; rw [if_pos rfl, List.getElem?_set_self (by rw [pgC_len]; exact hj)]
  · rw [if_neg hq, List.getElem?_set_ne (fun e => hq e.symm), pg_q rfl hj]
theorem setS_up (f : Pf) (i a n : Nat) : upN (upN f (2 + 2 * i) a) (3 + 2 * i) n = setS f i a n := by
  funext k
  unfold upN setS
  by_cases h1 : k = 3 + 2 * i
  · rw [if_pos h1, if_neg (by omega), if_pos h1]
  · rw [if_neg h1]
    by_cases h2 : k = 2 + 2 * i
    · rw [if_pos h2, if_pos h2]
    · rw [if_neg h2, if_neg h2, if_neg h1]
theorem seg_get {cs ds : List V} {a k : Nat} (h : a + ds.length ≤ cs.length) (hk : k < cs.length) : (setSeg cs a ds)[k]? = if a ≤ k ∧ k < a + ds.length then ds[k - a]? else cs[k]? := by
  unfold setSeg
  have hta : (cs.take a).length = a := by rw [List.length_take]; omega
  by_cases h1 : k < a
  · rw [if_neg (by omega), List.getElem?_append_left (by rw [List.length_append]; omega), List.getElem?_append_left (by omega), List.getElem?_take, if_pos h1]
  · by_cases h2 : k < a + ds.length
    · rw [if_pos (by omega), List.getElem?_append_left (by rw [List.length_append]; omega), List.getElem?_append_right (by omega), hta]
    · rw [if_neg (by omega), List.getElem?_append_right (by rw [List.length_append]; omega), List.length_append, hta, List.getElem?_drop]
      congr 1; omega
theorem bytesV_get (b : List Int) (t : Nat) (h : t < b.length) (hb : Byts b) : (bytesV b).flatten[t]? = some (.sc (.int .u8 (((b.getD t 0).toNat : Nat) : Int))) := by
  rw [bytesV_flat, List.getElem?_map, List.getElem?_eq_getElem h, List.getD_eq_getElem?_getD, List.getElem?_eq_getElem h]
  have := hb _ (List.getElem_mem h)
  simp only [Option.map_some, Option.getD_some, bV]
  rw [Int.toNat_of_nonneg this.1]
theorem pg_cp {f : Pf} {a : Nat} {b : List Int} (hb : Byts b) (h : a + b.length ≤ 224) : setSeg (pgC f) a (bytesV b).flatten = pgC (cpB f a b) := by
  have hl : (bytesV b).flatten.length = b.length := by rw [bytesV_flat, List.length_map]
  refine pg_of (by rw [setSeg_len (by rw [hl, pgC_len]; exact h), pgC_len]) fun k hk => ?_
  rw [seg_get (by rw [hl, pgC_len]; exact h) (by rw [pgC_len]; exact hk), hl]
  unfold cpB
  split
  · exact bytesV_get b _ (by omega) hb
  · exact pg_q rfl hk
theorem pg_clr {f : Pf} {a n : Nat} (h : a + n ≤ 224) : setSeg (pgC f) a (List.replicate n (V.sc (.int .u8 0))) = pgC (clr f a n) := by
  refine pg_of (by rw [setSeg_len (by rw [List.length_replicate, pgC_len]; exact h), pgC_len]) fun k hk => ?_
  rw [seg_get (by rw [List.length_replicate, pgC_len]; exact h) (by rw [pgC_len]; exact hk), List.length_replicate]
  unfold clr
  split
  · rw [List.getElem?_replicate, if_pos (by omega)]; rfl
  · exact pg_q rfl hk
def txtA (f : Pf) (a n : Nat) : List Int := (List.range n).map fun t => (f (a + t) : Int)
theorem txtA_len (f : Pf) (a n : Nat) : (txtA f a n).length = n := by simp [txtA]
theorem txtA_byts {f : Pf} (hb : ∀ k, f k < 256) (a n : Nat) : Byts (txtA f a n) := by
  intro x hx
  obtain ⟨t, _, rfl⟩ := List.mem_map.1 hx
  have := hb (a + t); omega
theorem rows_b : ∀ (b : List Int), rowsOf 1 b.length (b.map bV) = bytesV b
  | [] => rfl
  | x :: b => by
    have ih := rows_b b
    show (List.take 1 (bV x :: b.map bV)) :: rowsOf 1 b.length (List.drop 1 (bV x :: b.map bV)) = _
    simp only [List.take_succ_cons, List.take_zero, List.drop_succ_cons, List.drop_zero, ih]
    rfl
theorem pg_cut {f : Pf} {a n : Nat} (h : a + n ≤ 224) : ((pgC f).drop a).take n = (txtA f a n).map bV := by
  refine List.ext_getElem? fun k => ?_
  unfold txtA
  rw [List.getElem?_take]
  split
  · rename_i hk
    rw [List.getElem?_drop, pg_q rfl (by omega), List.getElem?_map, List.getElem?_map, List.getElem?_range hk]; rfl
  · rename_i hk
    rw [List.getElem?_eq_none (by simp; omega)]
theorem pg_rows {f : Pf} {a n : Nat} (h : a + n ≤ 224) : rowsOf 1 n (((pgC f).drop a).take (n * 1)) = bytesV (txtA f a n) := by
  rw [Nat.mul_one, pg_cut h, ← rows_b, txtA_len]
def sQ (a : Nat) : Nat := if a = 224 then 0 else a
theorem sQ_hq (a : Nat) : 224 ≠ a ∧ 0 + a * 1 = sQ a ∨ 224 = a ∧ 0 = sQ a := by
  unfold sQ
  by_cases h : a = 224
  · right; rw [if_pos h]; exact ⟨h.symm, rfl⟩
  · left; rw [if_neg h]; omega
theorem sQ_le {a n : Nat} (h : a + n ≤ 224) : sQ a + n ≤ 224 := by unfold sQ; split <;> omega
theorem pg_rowsQ {f : Pf} {a n : Nat} (h : a + n ≤ 224) : rowsOf 1 n (((pgC f).drop (sQ a)).take (n * 1)) = bytesV (txtA f a n) := by
  unfold sQ
  split
  · rename_i e; obtain rfl : n = 0 := by omega
    rfl
  · exact pg_rows h
theorem pg_cpQ {f : Pf} {a : Nat} {b : List Int} (hb : Byts b) (h : a + b.length ≤ 224) : setSeg (pgC f) (sQ a) (bytesV b).flatten = pgC (cpB f a b) := by
  unfold sQ
  split
  · have hb0 : b = [] := List.length_eq_zero_iff.1 (by omega)
    subst hb0
    rw [pg_cp hb (by simp)]
    refine pg_ext fun k hk => ?_
    unfold cpB
    rw [if_neg (by simp), if_neg (by simp)]
  · exact pg_cp hb h
theorem pg_clrQ {f : Pf} {a n : Nat} (h : a + n ≤ 224) : setSeg (pgC f) (sQ a) (List.replicate n (V.sc (.int .u8 0))) = pgC (clr f a n) := by
  unfold sQ
  split
  · obtain rfl : n = 0 := by omega
    rw [pg_clr (by omega)]
    refine pg_ext fun k hk => ?_
    unfold clr
    rw [if_neg (by omega), if_neg (by omega)]
  · exact pg_clr h
theorem cp_F {g f : Pf} {lo a n : Nat} : cpB g lo (txtA f a n) = cpF g lo a n f := by
  funext k
  unfold cpB cpF
  rw [txtA_len]
  split
  · unfold txtA
    rw [List.getD_eq_getElem?_getD, List.getElem?_map, List.getElem?_range (by omega)]; rfl
  · rfl
theorem pkI_s {f : Pf} {i : Nat} (h : 0 < sA f i) : setS (cpF (pkI f i) (224 - usd f (i + 1)) (sA f i) (sN f i) f) i (224 - usd f (i + 1)) (sN f i) = pkI f (i + 1) := (if_pos h).symm
theorem pkI_z {f : Pf} {i : Nat} (h : sA f i = 0) : pkI f i = pkI f (i + 1) := (if_neg (by omega)).symm
theorem fr_at {f : Pf} {i : Nat} (h : ∀ j, j < i → 0 < sA f j) (hi : i < f 0) (hz : sA f i = 0) : fr f = i := by
  refine freR_eq (fun j hj s hs => ?_) (by rw [ab_len]; omega) (fun s hs => ?_)
  · rw [ab_get (by omega)] at hs; cases hs; rw [sl_is]; exact decide_eq_true (h j hj)
  · rw [ab_get hi] at hs; cases hs; rw [sl_is]; exact decide_eq_false (by omega)
theorem fr_end {f : Pf} (h : ∀ j, j < f 0 → 0 < sA f j) : fr f = f 0 := by
  refine freR_eq (fun j hj s hs => ?_) (by rw [ab_len]; exact Nat.le_refl _) (fun s hs => ?_)
  · rw [ab_get hj] at hs; cases hs; rw [sl_is]; exact decide_eq_true (h j hj)
  · rw [List.getElem?_eq_none (by rw [ab_len]; exact Nat.le_refl _)] at hs; cases hs
theorem fr_le (f : Pf) : fr f ≤ f 0 := by have := freR_le (ab f); rw [ab_len] at this; exact this
theorem room_eq {f : Pf} (hs : Snd f) {n : Nat} (hn : n = if fr f = f 0 then f 0 + 1 else f 0) : roomR (ab f) = if 32 < n ∨ 224 - 2 - 2 * (n : Int) - usd f (f 0) < 0 then -1 else 224 - 2 - 2 * (n : Int) - usd f (f 0) := by
  unfold roomR
  rw [ab_len, ← usd_R hs.z, show freR (ab f) = fr f from rfl, ← hn]
end Go.Proofs.Ytjmfdddeoadpaaa
