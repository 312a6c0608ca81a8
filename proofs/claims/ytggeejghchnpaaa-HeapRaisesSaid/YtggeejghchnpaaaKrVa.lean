/- Walks by the logic of values. -/
import Derived.Test.YtggeejghchnpaaaKrVmT
import Derived.Test.YtggeejghchnpaaaKrVmP
import Derived.Test.YtggeejghchnpaaaKrVmV
namespace Go.Proofs.Ytggeejghchnpaaa
open Go.Vm
set_option linter.unusedVariables false
set_option linter.unusedSimpArgs false
/-! a heap of numbered things: a place's thing, and the things' keys; what came first is ahead of what is as great -/
section
variable (kf : Nat → Int)
def ltK (a b : Nat) : Prop := kf a < kf b ∨ (kf a = kf b ∧ a < b)
instance (a b : Nat) : Decidable (ltK kf a b) := inferInstanceAs (Decidable (_ ∨ _))
def sw (h : Nat → Nat) (i k : Nat) : Nat → Nat := fun j => if j = i then h k else if j = k then h i else h j
/-- Each is not ahead of the one above it. -/
def HP (h : Nat → Nat) (L : Nat) : Prop := ∀ j, 0 < j → j < L → ¬ ltK kf (h j) (h ((j - 1) / 2))
def HPu (h : Nat → Nat) (L i : Nat) : Prop := (∀ j, 0 < j → j < L → j ≠ i → ¬ ltK kf (h j) (h ((j - 1) / 2))) ∧ (0 < i → ∀ c, 0 < c → c < L → (c - 1) / 2 = i → ¬ ltK kf (h c) (h ((i - 1) / 2)))
def HPd (h : Nat → Nat) (L i : Nat) : Prop := (∀ j, 0 < j → j < L → (j - 1) / 2 ≠ i → ¬ ltK kf (h j) (h ((j - 1) / 2))) ∧ (0 < i → ∀ c, 0 < c → c < L → (c - 1) / 2 = i → ¬ ltK kf (h c) (h ((i - 1) / 2)))
def upF : Nat → (Nat → Nat) → Nat → (Nat → Nat)
  | 0, h, _ => h
  | f + 1, h, i => if 0 < i ∧ ltK kf (h i) (h ((i - 1) / 2)) then upF f (sw h i ((i - 1) / 2)) ((i - 1) / 2) else h
def bst1 (h : Nat → Nat) (L i : Nat) : Nat := if 2 * i + 1 < L ∧ ltK kf (h (2 * i + 1)) (h i) then 2 * i + 1 else i
def bst (h : Nat → Nat) (L i : Nat) : Nat := if 2 * i + 2 < L ∧ ltK kf (h (2 * i + 2)) (h (bst1 kf h L i)) then 2 * i + 2 else bst1 kf h L i
def dnF (L : Nat) : Nat → (Nat → Nat) → Nat → (Nat → Nat)
  | 0, h, _ => h
  | f + 1, h, i => if bst kf h L i = i then h else dnF L f (sw h i (bst kf h L i)) (bst kf h L i)
end
section
variable {kf : Nat → Int}
theorem ltK_as {a b : Nat} (h : ltK kf a b) : ¬ ltK kf b a := by unfold ltK at *; omega
theorem ltK_nn {a b c : Nat} (h1 : ¬ ltK kf a b) (h2 : ¬ ltK kf b c) : ¬ ltK kf a c := by unfold ltK at *; omega
theorem ltK_nl {a b c : Nat} (h1 : ¬ ltK kf a b) (h2 : ltK kf c b) : ¬ ltK kf a c := by unfold ltK at *; omega
theorem ltK_irr {a : Nat} : ¬ ltK kf a a := by unfold ltK; omega
theorem sw_i (h : Nat → Nat) (i k : Nat) : sw h i k i = h k := if_pos rfl
theorem sw_k {h : Nat → Nat} {i k : Nat} (e : k ≠ i) : sw h i k k = h i := (if_neg e).trans (if_pos rfl)
theorem sw_o {h : Nat → Nat} {i k j : Nat} (e : j ≠ i) (e2 : j ≠ k) : sw h i k j = h j := (if_neg e).trans (if_neg e2)
theorem up_ok {L : Nat} : ∀ (f : Nat) (h : Nat → Nat) (i : Nat), i ≤ f → i < L → HPu kf h L i → HP kf (upF kf f h i) L
  | 0, h, i, hi, hL, hp => fun j h0 h1 => hp.1 j h0 h1 (by omega)
  | f + 1, h, i, hi, hL, hp => by
    simp only [upF]
    split
    · rename_i hc
      obtain ⟨c1, c2⟩ := hc
      generalize hpd : (i - 1) / 2 = p at *
      have hpi : p < i := by omega
      refine up_ok f (sw h i p) p (by omega) (by omega) ⟨fun j h0 h1 hj => ?_, fun hp0 c h0 h1 hc => ?_⟩
      · by_cases e : j = i
        · subst e
          rw [sw_i, hpd, sw_k (by omega)]; exact ltK_as c2
        · rw [sw_o e hj]
          by_cases e2 : (j - 1) / 2 = i
          · rw [e2, sw_i]; have := hp.2 c1 j h0 h1 e2; rwa [hpd] at this
          · by_cases e3 : (j - 1) / 2 = p
            · rw [e3, sw_k (by omega)]
              have := hp.1 j h0 h1 e; rw [e3] at this
              exact ltK_nl this c2
            · rw [sw_o e2 e3]; exact hp.1 j h0 h1 e
      · have hpp := hp.1 p hp0 (by omega) (by omega)
        rw [sw_o (j := (p - 1) / 2) (by omega) (by omega)]
        by_cases e : c = i
        · subst e; rw [sw_i]; exact hpp
        · rw [sw_o e (by omega)]
          have := hp.1 c h0 h1 e; rw [hc] at this
          exact ltK_nn this hpp
    · rename_i hc
      intro j h0 h1
      by_cases e : j = i
      · subst e; exact fun q => hc ⟨h0, q⟩
      · exact hp.1 j h0 h1 e
theorem bst_ok {h : Nat → Nat} {L i : Nat} (hL : i < L) : (bst kf h L i = i ∨ ((bst kf h L i - 1) / 2 = i ∧ 0 < bst kf h L i ∧ bst kf h L i < L ∧ ltK kf (h (bst kf h L i)) (h i))) ∧ ∀ c, 0 < c → c < L → (c - 1) / 2 = i → ¬ ltK kf (h c) (h (bst kf h L i)) := by
  have h1 : bst1 kf h L i = i ∨ (bst1 kf h L i = 2 * i + 1 ∧ 2 * i + 1 < L ∧ ltK kf (h (2 * i + 1)) (h i)) := by
    unfold bst1; split
    · rename_i q; exact .inr ⟨rfl, q⟩
    · exact .inl rfl
  have h1' : 2 * i + 1 < L → ¬ ltK kf (h (2 * i + 1)) (h (bst1 kf h L i)) := by
    intro q; unfold bst1; split
    · exact ltK_irr
    · rename_i q2; exact fun q3 => q2 ⟨q, q3⟩
  have h2 : bst kf h L i = bst1 kf h L i ∨ (bst kf h L i = 2 * i + 2 ∧ 2 * i + 2 < L ∧ ltK kf (h (2 * i + 2)) (h (bst1 kf h L i))) := by
    unfold bst; split
    · rename_i q; exact .inr ⟨rfl, q⟩
    · exact .inl rfl
  have h2' : 2 * i + 2 < L → ¬ ltK kf (h (2 * i + 2)) (h (bst kf h L i)) := by
    intro q; unfold bst; split
    · exact ltK_irr
    · rename_i q2; exact fun q3 => q2 ⟨q, q3⟩
  constructor
  · rcases h2 with h2 | ⟨h2, h3, h4⟩
    · rw [h2]
      rcases h1 with h1 | ⟨h1, h5, h6⟩
      · exact .inl h1
      · rw [h1]; exact .inr ⟨by omega, by omega, h5, h6⟩
    · rw [h2]
      refine .inr ⟨by omega, by omega, h3, ?_⟩
      rcases h1 with h1 | ⟨h1, h5, h6⟩
      · rw [h1] at h4; exact h4
      · rw [h1] at h4; unfold ltK at *; omega
  · intro c h0 hc hp
    have : c = 2 * i + 1 ∨ c = 2 * i + 2 := by omega
    rcases this with rfl | rfl
    · rcases h2 with h2 | ⟨h2, h3, h4⟩
      · rw [h2]; exact h1' hc
      · rw [h2]; exact ltK_nl (h1' hc) h4
    · exact h2' hc
theorem dn_ok {L : Nat} : ∀ (f : Nat) (h : Nat → Nat) (i : Nat), L ≤ i + f → i < L → HPd kf h L i → HP kf (dnF kf L f h i) L
  | 0, h, i, hi, hL, hp => by omega
  | f + 1, h, i, hi, hL, hp => by
    obtain ⟨b1, b2⟩ := bst_ok (kf := kf) (h := h) hL
    simp only [dnF]
    split
    · rename_i hb
      rw [hb] at b2
      intro j h0 h1
      by_cases e : (j - 1) / 2 = i
      · rw [e]; exact b2 j h0 h1 e
      · exact hp.1 j h0 h1 e
    · rename_i hb
      rcases b1 with b1 | ⟨b1, b3, b4, b5⟩
      · exact absurd b1 hb
      · generalize bst kf h L i = b at *
        refine dn_ok f (sw h i b) b (by omega) b4 ⟨fun j h0 h1 hj => ?_, fun _ c h0 h1 hc => ?_⟩
        · by_cases e : j = i
          · subst e
            rw [sw_i, sw_o (j := (j - 1) / 2) (by omega) (by omega)]
            exact hp.2 h0 b b3 b4 b1
          · by_cases e2 : j = b
            · subst e2; rw [sw_k (by omega), b1, sw_i]; exact ltK_as b5
            · rw [sw_o e e2]
              by_cases e3 : (j - 1) / 2 = i
              · rw [e3, sw_i]; exact b2 j h0 h1 e3
              · rw [sw_o e3 hj]; exact hp.1 j h0 h1 e3
        · rw [b1, sw_i, sw_o (j := c) (by omega) (by omega)]
          have := hp.1 c h0 h1 (by omega); rw [hc] at this; exact this
/-- The first is ahead of all others. -/
theorem root_ok {h : Nat → Nat} {L : Nat} (hp : HP kf h L) : ∀ j, j < L → ¬ ltK kf (h j) (h 0) := by
  intro j
  induction j using Nat.strongRecOn with
  | ind j ih =>
    intro hj
    rcases Nat.eq_zero_or_pos j with e | e
    · subst e; exact ltK_irr
    · exact ltK_nn (hp j e hj) (ih ((j - 1) / 2) (by omega) (by omega))
end
/-! the document's list: by rising keys, of one key as they came -/
structure Itm where
  k : Int
  n : Nat
deriving Inhabited, DecidableEq
def ltI (x y : Itm) : Prop := x.k < y.k ∨ (x.k = y.k ∧ x.n < y.n)
instance (x y : Itm) : Decidable (ltI x y) := inferInstanceAs (Decidable (_ ∨ _))
def insR : List Itm → Itm → List Itm
  | [], x => [x]
  | y :: l, x => if ltI x y then x :: y :: l else y :: insR l x
def withR (l : List Itm) (n : Nat) : List Itm := l.filter fun y => decide (y.n ≠ n)
def wasR (l : List Itm) (n : Nat) : Bool := l.any fun y => decide (y.n = n)
theorem insR_mem : ∀ {l : List Itm} {x z : Itm}, z ∈ insR l x ↔ z = x ∨ z ∈ l
  | [], x, z => by simp [insR]
  | y :: l, x, z => by
    simp only [insR]
    split
    · simp
    · rw [List.mem_cons, insR_mem (l := l), List.mem_cons]
      constructor
      · rintro (h | h | h)
        · exact .inr (.inl h)
        · exact .inl h
        · exact .inr (.inr h)
      · rintro (h | h | h)
        · exact .inr (.inl h)
        · exact .inl h
        · exact .inr (.inr h)
theorem insR_len : ∀ (l : List Itm) (x : Itm), (insR l x).length = l.length + 1
  | [], x => rfl
  | y :: l, x => by simp only [insR]; split <;> simp [insR_len l x]
theorem insR_up : ∀ {l : List Itm} {x : Itm}, l.Pairwise ltI → (∀ y ∈ l, y.n ≠ x.n) → (insR l x).Pairwise ltI
  | [], x, _, _ => by simp [insR]
  | y :: l, x, h, hn => by
    rw [List.pairwise_cons] at h
    simp only [insR]
    split
    · rename_i hc
      refine List.pairwise_cons.2 ⟨fun z hz => ?_, List.pairwise_cons.2 h⟩
      rcases List.mem_cons.1 hz with rfl | hz
      · exact hc
      · have := h.1 z hz; unfold ltI at *; omega
    · rename_i hc
      refine List.pairwise_cons.2 ⟨fun z hz => ?_, insR_up h.2 fun z hz => hn z (List.mem_cons_of_mem _ hz)⟩
      rcases insR_mem.1 hz with rfl | hz
      · have := hn y (List.mem_cons_self ..); unfold ltI at *; omega
      · exact h.1 z hz
theorem withR_up {l : List Itm} {n : Nat} (h : l.Pairwise ltI) : (withR l n).Pairwise ltI := h.filter _
theorem withR_mem {l : List Itm} {n : Nat} {z : Itm} : z ∈ withR l n ↔ z ∈ l ∧ z.n ≠ n := by unfold withR; rw [List.mem_filter, decide_eq_true_eq]
theorem wasR_iff {l : List Itm} {n : Nat} : wasR l n = true ↔ ∃ y ∈ l, y.n = n := by unfold wasR; rw [List.any_eq_true]; simp
theorem withR_no {l : List Itm} {n : Nat} (h : wasR l n = false) : withR l n = l := by
  unfold withR
  refine List.filter_eq_self.2 fun y hy => decide_eq_true fun e => ?_
  have := wasR_iff.2 ⟨y, hy, e⟩
  rw [h] at this; cases this
theorem withR_len : ∀ {l : List Itm} {n : Nat}, (l.map Itm.n).Nodup → wasR l n = true → (withR l n).length + 1 = l.length
  | [], n, _, h => by simp [wasR] at h
  | y :: l, n, hd, h => by
    rw [List.map_cons, List.nodup_cons] at hd
    by_cases e : y.n = n
    · have h0 : wasR l n = false := by
        cases hq : wasR l n with
        | false => rfl
        | true =>
          obtain ⟨z, hz, hz2⟩ := wasR_iff.1 hq
          exact absurd (List.mem_map.2 ⟨z, hz, hz2.trans e.symm⟩) hd.1
      have : withR (y :: l) n = withR l n := by unfold withR; rw [List.filter_cons, if_neg (by simp [e])]
      rw [this, withR_no h0]; rfl
    · have : withR (y :: l) n = y :: withR l n := by unfold withR; rw [List.filter_cons, if_pos (by simp [e])]
      rw [this, List.length_cons, List.length_cons, withR_len hd.2 (by
        obtain ⟨z, hz, hz2⟩ := wasR_iff.1 h
        rcases List.mem_cons.1 hz with rfl | hz
        · exact absurd hz2 e
        · exact wasR_iff.2 ⟨z, hz, hz2⟩)]
/-! a heap holds what a list holds -/
structure Rel (kf : Nat → Int) (h : Nat → Nat) (L : Nat) (m : List Itm) : Prop where
  hp : HP kf h L
  len : L = m.length
  up : m.Pairwise ltI
  key : ∀ x ∈ m, x.k = kf x.n
  inn : ∀ j, j < L → ∃ x ∈ m, x.n = h j
  out : ∀ x ∈ m, ∃ j, j < L ∧ h j = x.n
theorem Rel.top {kf : Nat → Int} {h : Nat → Nat} {L : Nat} {m : List Itm} (r : Rel kf h L m) (h0 : 0 < L) : ∃ x, m.head? = some x ∧ x.n = h 0 ∧ x.k = kf (h 0) := by
  cases m with
  | nil => have := r.len; simp at this; omega
  | cons x m =>
    refine ⟨x, rfl, ?_⟩
    have hk := r.key x (List.mem_cons_self ..)
    obtain ⟨j, hj, hjx⟩ := r.out x (List.mem_cons_self ..)
    obtain ⟨y, hy, hy0⟩ := r.inn 0 h0
    have hroot := root_ok r.hp j hj
    rcases List.mem_cons.1 hy with e | e
    · subst e; exact ⟨hy0, by rw [← hy0]; exact hk⟩
    · have h1 := (List.pairwise_cons.1 r.up).1 y e
      have hky := r.key y (List.mem_cons_of_mem _ e)
      exfalso; apply hroot
      rw [hjx, ← hy0]
      unfold ltI at h1; unfold ltK; omega
/-! what a heap holds stays -/
def InH (h : Nat → Nat) (L v : Nat) : Prop := ∃ j, j < L ∧ h j = v
def InjH (h : Nat → Nat) (L : Nat) : Prop := ∀ i j, i < L → j < L → h i = h j → i = j
theorem sw_sw (h : Nat → Nat) (i k : Nat) : sw (sw h i k) i k = h := by
  funext j
  unfold sw
  by_cases e : j = i
  · subst e
    rw [if_pos rfl]
    by_cases e2 : k = j
    · subst e2; rw [if_pos rfl]
    · rw [if_neg e2, if_pos rfl]
  · rw [if_neg e]
    by_cases e2 : j = k
    · subst e2; rw [if_pos rfl, if_pos rfl]
    · rw [if_neg e2, if_neg e, if_neg e2]
theorem sw_in1 {h : Nat → Nat} {L i k v : Nat} (hi : i < L) (hk : k < L) (hv : InH h L v) : InH (sw h i k) L v := by
  obtain ⟨j, hj, e⟩ := hv
  by_cases e1 : j = i
  · subst e1
    by_cases e2 : k = j
    · subst e2; exact ⟨k, hk, by rw [sw_i]; exact e⟩
    · exact ⟨k, hk, by rw [sw_k e2]; exact e⟩
  · by_cases e2 : j = k
    · subst e2; exact ⟨i, hi, by rw [sw_i]; exact e⟩
    · exact ⟨j, hj, by rw [sw_o e1 e2]; exact e⟩
theorem sw_in {h : Nat → Nat} {L i k v : Nat} (hi : i < L) (hk : k < L) : InH (sw h i k) L v ↔ InH h L v :=
  ⟨fun q => by have := sw_in1 hi hk q; rwa [sw_sw] at this, sw_in1 hi hk⟩
theorem sw_inj {h : Nat → Nat} {L i k : Nat} (hi : i < L) (hk : k < L) (hj : InjH h L) : InjH (sw h i k) L := by
  intro a b ha hb e
  have key : ∀ x, x < L → ∃ y, y < L ∧ sw h i k x = h y ∧ y = (if x = i then k else if x = k then i else x) := by
    intro x hx
    unfold sw
    by_cases e1 : x = i
    · exact ⟨k, hk, by rw [if_pos e1], by rw [if_pos e1]⟩
    · by_cases e2 : x = k
      · exact ⟨i, hi, by rw [if_neg e1, if_pos e2], by rw [if_neg e1, if_pos e2]⟩
      · exact ⟨x, hx, by rw [if_neg e1, if_neg e2], by rw [if_neg e1, if_neg e2]⟩
  obtain ⟨y, hy, ey, dy⟩ := key a ha
  obtain ⟨z, hz, ez, dz⟩ := key b hb
  rw [ey, ez] at e
  have := hj y z hy hz e
  rw [this] at dy
  rw [dy] at dz
  clear dy ey ez key this hy hz e
  (repeat' split at dz) <;> omega
theorem up_in {kf : Nat → Int} {L v : Nat} : ∀ (f : Nat) (h : Nat → Nat) (i : Nat), i < L → (InH (upF kf f h i) L v ↔ InH h L v)
  | 0, h, i, hi => Iff.rfl
  | f + 1, h, i, hi => by
    simp only [upF]
    split
    · exact (up_in f _ _ (by omega)).trans (sw_in hi (by omega))
    · exact Iff.rfl
theorem up_inj {kf : Nat → Int} {L : Nat} : ∀ (f : Nat) (h : Nat → Nat) (i : Nat), i < L → InjH h L → InjH (upF kf f h i) L
  | 0, h, i, hi, hj => hj
  | f + 1, h, i, hi, hj => by
    simp only [upF]
    split
    · exact up_inj f _ _ (by omega) (sw_inj hi (by omega) hj)
    · exact hj
theorem bst_lt {kf : Nat → Int} {h : Nat → Nat} {L i : Nat} (hL : i < L) : bst kf h L i < L := by
  rcases (bst_ok (kf := kf) (h := h) hL).1 with e | e
  · omega
  · exact e.2.2.1
theorem dn_in {kf : Nat → Int} {L v : Nat} : ∀ (f : Nat) (h : Nat → Nat) (i : Nat), i < L → (InH (dnF kf L f h i) L v ↔ InH h L v)
  | 0, h, i, hi => Iff.rfl
  | f + 1, h, i, hi => by
    simp only [dnF]
    split
    · exact Iff.rfl
    · exact (dn_in f _ _ (bst_lt hi)).trans (sw_in hi (bst_lt hi))
theorem dn_inj {kf : Nat → Int} {L : Nat} : ∀ (f : Nat) (h : Nat → Nat) (i : Nat), i < L → InjH h L → InjH (dnF kf L f h i) L
  | 0, h, i, hi, hj => hj
  | f + 1, h, i, hi, hj => by
    simp only [dnF]
    split
    · exact hj
    · exact dn_inj f _ _ (bst_lt hi) (sw_inj hi (bst_lt hi) hj)
/-! what is put, removed, changed -/
def upd1 (h : Nat → Nat) (q v : Nat) : Nat → Nat := fun j => if j = q then v else h j
theorem HP.congr {kf kg : Nat → Int} {h : Nat → Nat} {L : Nat} (e : ∀ j, j < L → kf (h j) = kg (h j)) (hp : HP kf h L) : HP kg h L := by
  intro j h0 h1
  have := hp j h0 h1
  have e1 := e j h1
  have e2 := e ((j - 1) / 2) (by omega)
  unfold ltK at *; omega
theorem put_hp {kf : Nat → Int} {h : Nat → Nat} {L c f : Nat} (hp : HP kf h L) (hf : L ≤ f) : HP kf (upF kf f (upd1 h L c) L) (L + 1) := by
  refine up_ok f _ L hf (by omega) ⟨fun j h0 h1 hj => ?_, fun _ d h0 h1 hd => by omega⟩
  unfold upd1
  rw [if_neg hj, if_neg (by omega)]
  exact hp j h0 (by omega)
theorem put_in {kf : Nat → Int} {h : Nat → Nat} {L c f v : Nat} : InH (upF kf f (upd1 h L c) L) (L + 1) v ↔ v = c ∨ InH h L v := by
  rw [up_in f _ _ (by omega)]
  unfold InH upd1
  constructor
  · rintro ⟨j, hj, e⟩
    by_cases q : j = L
    · rw [if_pos q] at e; exact .inl e.symm
    · rw [if_neg q] at e; exact .inr ⟨j, by omega, e⟩
  · rintro (e | ⟨j, hj, e⟩)
    · exact ⟨L, by omega, by rw [if_pos rfl]; exact e.symm⟩
    · exact ⟨j, by omega, by rw [if_neg (by omega)]; exact e⟩
theorem put_inj {kf : Nat → Int} {h : Nat → Nat} {L c f : Nat} (hj : InjH h L) (hc : ¬ InH h L c) : InjH (upF kf f (upd1 h L c) L) (L + 1) := by
  refine up_inj f _ _ (by omega) fun a b ha hb e => ?_
  unfold upd1 at e
  by_cases qa : a = L <;> by_cases qb : b = L
  · omega
  · rw [if_pos qa, if_neg qb] at e; exact absurd ⟨b, by omega, e.symm⟩ hc
  · rw [if_neg qa, if_pos qb] at e; exact absurd ⟨a, by omega, e⟩ hc
  · rw [if_neg qa, if_neg qb] at e; exact hj a b (by omega) (by omega) e
/-- All but one place is in order. -/
def HPx (kf : Nat → Int) (h : Nat → Nat) (L i : Nat) : Prop := (∀ j, 0 < j → j < L → j ≠ i → (j - 1) / 2 ≠ i → ¬ ltK kf (h j) (h ((j - 1) / 2))) ∧ (0 < i → ∀ c, 0 < c → c < L → (c - 1) / 2 = i → ¬ ltK kf (h c) (h ((i - 1) / 2)))
theorem HP.d {kf : Nat → Int} {h : Nat → Nat} {L i : Nat} (hp : HP kf h L) (hi : i < L) : HPd kf h L i :=
  ⟨fun j h0 h1 _ => hp j h0 h1, fun h0 c c0 c1 hc => by have := hp c c0 c1; rw [hc] at this; exact ltK_nn this (hp i h0 hi)⟩
theorem fix_up {kf : Nat → Int} {h : Nat → Nat} {L i f : Nat} (hx : HPx kf h L i) (hi : i < L) (hf : i ≤ f) : HP kf (upF kf f h i) L ∨ (upF kf f h i = h ∧ HPd kf h L i) := by
  by_cases hc : 0 < i ∧ ltK kf (h i) (h ((i - 1) / 2))
  · left
    refine up_ok f h i hf hi ⟨fun j h0 h1 hj => ?_, hx.2⟩
    by_cases e : (j - 1) / 2 = i
    · rw [e]
      exact ltK_nl (hx.2 hc.1 j h0 h1 e) hc.2
    · exact hx.1 j h0 h1 hj e
  · right
    refine ⟨?_, fun j h0 h1 hj => ?_, hx.2⟩
    · cases f with
      | zero => rfl
      | succ f => simp only [upF]; rw [if_neg hc]
    · by_cases e : j = i
      · subst e; exact fun q => hc ⟨h0, q⟩
      · exact hx.1 j h0 h1 e hj
theorem change_x {kf kg : Nat → Int} {h : Nat → Nat} {L i : Nat} (hp : HP kf h L) (hj : InjH h L) (hi : i < L) (e : ∀ v, v ≠ h i → kf v = kg v) : HPx kg h L i := by
  have ne : ∀ j, j < L → j ≠ i → kf (h j) = kg (h j) := fun j hjl hji => e _ fun q => hji (hj j i hjl hi q)
  refine ⟨fun j h0 h1 h2 h3 => ?_, fun h0 c c0 c1 hc => ?_⟩
  · have := hp j h0 h1
    have e1 := ne j h1 h2
    have e2 := ne ((j - 1) / 2) (by omega) h3
    unfold ltK at *; omega
  · have := (hp.d hi).2 h0 c c0 c1 hc
    have e1 := ne c c1 (by omega)
    have e2 := ne ((i - 1) / 2) (by omega) (by omega)
    unfold ltK at *; omega
theorem remove_x {kf : Nat → Int} {h : Nat → Nat} {L i : Nat} (hp : HP kf h (L + 1)) (hi : i < L) : HPx kf (sw h i L) L i := by
  refine ⟨fun j h0 h1 h2 h3 => ?_, fun h0 c c0 c1 hc => ?_⟩
  · rw [sw_o h2 (by omega), sw_o h3 (by omega)]; exact hp j h0 (by omega)
  · rw [sw_o (j := c) (by omega) (by omega), sw_o (j := (i - 1) / 2) (by omega) (by omega)]
    exact (hp.d (by omega)).2 h0 c c0 (by omega) hc
theorem remove_in {h : Nat → Nat} {L i v : Nat} (hj : InjH h (L + 1)) (hi : i ≤ L) : InH (sw h i L) L v ↔ InH h (L + 1) v ∧ v ≠ h i := by
  constructor
  · rintro ⟨j, hjl, e⟩
    by_cases q : j = i
    · subst q
      rw [sw_i] at e
      exact ⟨⟨L, by omega, e⟩, fun q => by have := hj L j (by omega) (by omega) (e.trans q); omega⟩
    · rw [sw_o q (by omega)] at e
      exact ⟨⟨j, by omega, e⟩, fun q2 => q (hj j i (by omega) (by omega) (e.trans q2))⟩
  · rintro ⟨⟨j, hjl, e⟩, hn⟩
    by_cases q : j = L
    · subst q
      by_cases q2 : i = j
      · subst q2; exact absurd e.symm hn
      · exact ⟨i, by omega, by rw [sw_i]; exact e⟩
    · by_cases q2 : j = i
      · subst q2; exact absurd e.symm hn
      · exact ⟨j, by omega, by rw [sw_o q2 q]; exact e⟩
/-! the heap and the list go on together -/
theorem Rel.congr {kf kg : Nat → Int} {h : Nat → Nat} {L : Nat} {m : List Itm} (r : Rel kf h L m) (e : ∀ x ∈ m, kf x.n = kg x.n) : Rel kg h L m := by
  refine ⟨r.hp.congr fun j hj => ?_, r.len, r.up, fun x hx => (r.key x hx).trans (e x hx), r.inn, r.out⟩
  obtain ⟨x, hx, hn⟩ := r.inn j hj
  rw [← hn]; exact e x hx
theorem Rel.in_iff {kf : Nat → Int} {h : Nat → Nat} {L : Nat} {m : List Itm} (r : Rel kf h L m) {v : Nat} : InH h L v ↔ wasR m v = true := by
  rw [wasR_iff]
  constructor
  · rintro ⟨j, hj, e⟩
    obtain ⟨x, hx, hn⟩ := r.inn j hj
    exact ⟨x, hx, hn.trans e⟩
  · rintro ⟨x, hx, e⟩
    obtain ⟨j, hj, hn⟩ := r.out x hx
    exact ⟨j, hj, hn.trans e⟩
theorem Rel.put {kf : Nat → Int} {h : Nat → Nat} {L c f : Nat} {m : List Itm} (r : Rel kf h L m) (hc : ¬ InH h L c) (hf : L ≤ f) : Rel kf (upF kf f (upd1 h L c) L) (L + 1) (insR m ⟨kf c, c⟩) := by
  have hcm : ∀ y ∈ m, y.n ≠ c := fun y hy e => hc (r.in_iff.2 (wasR_iff.2 ⟨y, hy, e⟩))
  refine ⟨put_hp r.hp hf, by rw [insR_len, ← r.len], insR_up r.up hcm, fun x hx => ?_, fun j hj => ?_, fun x hx => ?_⟩
  · rcases insR_mem.1 hx with rfl | hx
    · rfl
    · exact r.key x hx
  · rcases (put_in (kf := kf) (f := f) (h := h) (L := L) (c := c)).1 ⟨j, hj, rfl⟩ with e | e
    · exact ⟨⟨kf c, c⟩, insR_mem.2 (.inl rfl), e.symm⟩
    · obtain ⟨x, hx, hn⟩ := wasR_iff.1 (r.in_iff.1 e)
      exact ⟨x, insR_mem.2 (.inr hx), hn⟩
  · rcases insR_mem.1 hx with rfl | hx
    · exact put_in.2 (.inl rfl)
    · exact put_in.2 (.inr (r.in_iff.2 (wasR_iff.2 ⟨x, hx, rfl⟩)))
/-- Whatever has the same things in order: the list without one. -/
theorem Rel.without {kf : Nat → Int} {h g : Nat → Nat} {L v : Nat} {m : List Itm} (r : Rel kf h (L + 1) m) (hd : (m.map Itm.n).Nodup) (hv : InH h (L + 1) v) (hg : HP kf g L) (hi : ∀ w, InH g L w ↔ InH h (L + 1) w ∧ w ≠ v) : Rel kf g L (withR m v) := by
  have hw := r.in_iff.1 hv
  have hl := withR_len hd hw
  refine ⟨hg, by have := r.len; omega, withR_up r.up, fun x hx => r.key x (withR_mem.1 hx).1, fun j hj => ?_, fun x hx => ?_⟩
  · obtain ⟨h1, h2⟩ := (hi (g j)).1 ⟨j, hj, rfl⟩
    obtain ⟨x, hx, hn⟩ := wasR_iff.1 (r.in_iff.1 h1)
    exact ⟨x, withR_mem.2 ⟨hx, by rw [hn]; exact h2⟩, hn⟩
  · obtain ⟨h1, h2⟩ := withR_mem.1 hx
    exact (hi x.n).2 ⟨r.in_iff.2 (wasR_iff.2 ⟨x, h1, rfl⟩), h2⟩
theorem up_nodup {m : List Itm} {kf : Nat → Int} (h : m.Pairwise ltI) (hk : ∀ x ∈ m, x.k = kf x.n) : (m.map Itm.n).Nodup := by
  unfold List.Nodup
  rw [List.pairwise_map]
  refine h.imp_of_mem fun {a b} ha hb hab e => ?_
  have h1 := hk a ha
  have h2 := hk b hb
  rw [e] at h1
  unfold ltI at hab; omega
/-! where an item is -/
def posF (h : Nat → Nat) (L v : Nat) : Int := match (List.range L).find? (fun j => h j == v) with
  | some j => (j : Int)
  | none => -1
theorem pos_some {h : Nat → Nat} {L v : Nat} (hv : InH h L v) : ∃ j : Nat, posF h L v = (j : Int) ∧ j < L ∧ h j = v := by
  obtain ⟨i, hi, e⟩ := hv
  unfold posF
  cases hq : (List.range L).find? (fun j => h j == v) with
  | none =>
    have := List.find?_eq_none.1 hq i (List.mem_range.2 hi)
    simp [e] at this
  | some j =>
    have h1 := List.find?_some hq
    have h2 := List.mem_of_find?_eq_some hq
    exact ⟨j, rfl, List.mem_range.1 h2, by simpa using h1⟩
theorem pos_none {h : Nat → Nat} {L v : Nat} (hv : ¬ InH h L v) : posF h L v = -1 := by
  unfold posF
  cases hq : (List.range L).find? (fun j => h j == v) with
  | none => rfl
  | some j =>
    have h1 := List.find?_some hq
    have h2 := List.mem_of_find?_eq_some hq
    exact absurd ⟨j, List.mem_range.1 h2, by simpa using h1⟩ hv
theorem pos_at {h : Nat → Nat} {L i : Nat} (hj : InjH h L) (hi : i < L) : posF h L (h i) = (i : Int) := by
  obtain ⟨j, e, hjl, hh⟩ := pos_some (h := h) (L := L) (v := h i) ⟨i, hi, rfl⟩
  rw [e, hj j i hjl hi hh]
theorem pos_iff {h : Nat → Nat} {L v : Nat} : 0 ≤ posF h L v ↔ InH h L v := by
  constructor
  · intro q
    refine Classical.byContradiction fun hn => ?_
    rw [pos_none hn] at q; omega
  · intro q
    obtain ⟨j, e, _⟩ := pos_some q
    rw [e]; omega
theorem pos_lt (h : Nat → Nat) (L v : Nat) : -1 ≤ posF h L v ∧ posF h L v < L ∨ (posF h L v = -1) := by
  by_cases q : InH h L v
  · obtain ⟨j, e, hj, _⟩ := pos_some q
    left; omega
  · exact .inr (pos_none q)
/-- Up, then down where it is then: in order. -/
theorem mend {kf : Nat → Int} {h : Nat → Nat} {L i f f2 : Nat} (hx : HPx kf h L i) (hj : InjH h L) (hi : i < L) (hf : i ≤ f) (hf2 : L ≤ f2) : HP kf (dnF kf L f2 (upF kf f h i) (posF (upF kf f h i) L (h i)).toNat) L := by
  obtain ⟨p, e, hp, hv⟩ := pos_some ((up_in (kf := kf) f h i hi).2 ⟨i, hi, rfl⟩)
  rw [e, Int.toNat_natCast]
  rcases fix_up hx hi hf with q | ⟨q, hd⟩
  · exact dn_ok f2 _ p (by omega) hp (q.d hp)
  · rw [q] at hv ⊢
    obtain rfl : p = i := hj p i hp hi hv
    exact dn_ok f2 _ p (by omega) hp hd
/-- Up, then down at the same place. -/
theorem mend2 {kf : Nat → Int} {h : Nat → Nat} {L i f f2 : Nat} (hx : HPx kf h L i) (hi : i < L) (hf : i ≤ f) (hf2 : L ≤ f2) : HP kf (dnF kf L f2 (upF kf f h i) i) L := by
  rcases fix_up hx hi hf with q | ⟨q, hd⟩
  · exact dn_ok f2 _ i (by omega) hi (q.d hi)
  · rw [q]; exact dn_ok f2 _ i (by omega) hi hd
set_option maxRecDepth 100000 in
set_option maxHeartbeats 4000000 in
theorem less_c (a b : Int) : Does Try.prog 8 [.sc (.int .i64 a), .sc (.int .i64 b)] [] [] (.sc (.bool (decide (a < b)))) := by
  refine does_mkg 40 Try.func8 rfl rfl rfl (fun n B bx hd hpre hup hvs hbx hgx => ?_)
  refine runs_seq ?_
  refine runs_region ?_
  refine rl0 (gn rfl) rfl rfl (step_as rfl rfl) trivial ?_
  refine runsL_nil ?_
  refine runs_seq ?_
  refine runs_region ?_
  refine rl0 (gn rfl) rfl rfl (step_mv rfl rfl) trivial ?_
  refine rl0 (gn rfl) rfl rfl (step_mv rfl rfl) trivial ?_
  refine rl_lss (gn rfl) rfl rfl rfl rfl rfl (fun h1 => ?_) (fun h1 => ?_)
  · skip
    refine rl0 (gn rfl) rfl rfl (step_as rfl rfl) trivial ?_
    refine runsL_nil ?_
    refine runs_ret ?_
    refine ⟨by first | exact .inr rfl | exact .inl rfl, fin_mkg (rest rfl res0) ?_ ?_ ?_ ?_ ?_⟩
    · (repeat' (first | exact VLe.refl _ | exact VLe.own_sl _ _ _ | exact VLe.fl_sl _ _ | exact VLe.nil_sl _ | exact VLe.nil_fl _ | exact VLes.refl _ | exact .nil | refine VLe.tup ?_ | refine VLe.agg ?_ | refine .cons ?_ ?_ | (rw [Int.natCast_add]; exact VLe.refl _) | exact vle_int (by omega) | exact vle_bool (by first | rfl | assumption | (simp_all; done) | fail) | (exact vle_bool (by simp_all)) | fail))
    · repeat (first | exact trivial | assumption | omega | (refine bdR_map (fun _ => ?_)) | (refine bdL_map (fun _ => ?_)) | refine ⟨?_, ?_⟩ | fail)
    · intro k_ hk_; exact ble (by repeat (first | exact rfl | refine uN (by omega) ?_ | assumption | fail))
    · intro p hp; cases hp
    · repeat (first | exact trivial | assumption | omega | (refine bdR_map (fun _ => ?_)) | (refine bdL_map (fun _ => ?_)) | refine ⟨?_, ?_⟩ | fail)
  · skip
    refine rl0 (gn rfl) rfl rfl (step_as rfl rfl) trivial ?_
    refine runsL_nil ?_
    refine runs_ret ?_
    refine ⟨by first | exact .inr rfl | exact .inl rfl, fin_mkg (rest rfl res0) ?_ ?_ ?_ ?_ ?_⟩
    · (repeat' (first | exact VLe.refl _ | exact VLe.own_sl _ _ _ | exact VLe.fl_sl _ _ | exact VLe.nil_sl _ | exact VLe.nil_fl _ | exact VLes.refl _ | exact .nil | refine VLe.tup ?_ | refine VLe.agg ?_ | refine .cons ?_ ?_ | (rw [Int.natCast_add]; exact VLe.refl _) | exact vle_int (by omega) | exact vle_bool (by first | rfl | assumption | (simp_all; done) | fail) | (exact vle_bool (by simp_all)) | fail))
    · repeat (first | exact trivial | assumption | omega | (refine bdR_map (fun _ => ?_)) | (refine bdL_map (fun _ => ?_)) | refine ⟨?_, ?_⟩ | fail)
    · intro k_ hk_; exact ble (by repeat (first | exact rfl | refine uN (by omega) ?_ | assumption | fail))
    · intro p hp; cases hp
    · repeat (first | exact trivial | assumption | omega | (refine bdR_map (fun _ => ?_)) | (refine bdL_map (fun _ => ?_)) | refine ⟨?_, ?_⟩ | fail)
end Go.Proofs.Ytggeejghchnpaaa
