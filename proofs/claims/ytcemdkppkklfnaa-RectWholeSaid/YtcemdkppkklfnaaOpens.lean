/- A value of a flat type (numbers, truths, strings, structs of these), opened: its cells are numbers, truths and strings of the type's leaves, and it has no places. No program in sight. -/
import Derived.ProofKit
import Derived.OpenShut
import Derived.ShutString
import Derived.ChangeMaps5
import Derived.ChangeSame
import Derived.WideShapes
namespace Go.Proofs.Ytcemdkppkklfnaa.Opens
open Go.ChangeShapes Go.WideShapes Go.ChangeAt Go.RowKit Go.ChangeMaps

/-- A leaf's kind. -/
inductive Leaf | int (k : IntKind) | bool | str
def Leaf.has : Leaf → Value → Prop
  | .int k, v => ∃ n, v = .int k n ∧ (Lit.int k n).wf = true
  | .bool, v => ∃ b, v = .bool b
  | .str, v => ∃ s, v = .string s ∧ s.size ≤ maxLen
def All2 : List Leaf → List Value → Prop
  | [], vs => vs = []
  | k :: ks, vs => ∃ v r, vs = v :: r ∧ k.has v ∧ All2 ks r
theorem All2.append : ∀ {ks js : List Leaf} {vs us : List Value}, All2 ks vs → All2 js us → All2 (ks ++ js) (vs ++ us)
  | [], _, _, _, h, k => by cases h; exact k
  | _ :: _, _, _, _, ⟨v, r, e, hv, hr⟩, k => ⟨v, _, by rw [e]; rfl, hv, hr.append k⟩
theorem All2.length : ∀ {ks : List Leaf} {vs : List Value}, All2 ks vs → vs.length = ks.length
  | [], _, h => by cases h; rfl
  | _ :: _, _, ⟨v, r, e, _, hr⟩ => by rw [e, List.length_cons, List.length_cons, hr.length]
/-- The leaves of a flat type, fields one behind the other. -/
def flats (leaves : TypeId → Option (List Leaf)) (P : Program) : Nat → List Field → Option (List Leaf)
  | _, [] => some []
  | o, f :: fs => match leaves f.type with
    | some l => if f.offset = o ∧ l.length = P.cellsOf f.type then (flats leaves P (o + P.cellsOf f.type) fs).map fun r => l ++ r else none
    | none => none
def flat (P : Program) : Nat → TypeId → Option (List Leaf)
  | 0, _ => none
  | n + 1, t => match P.underlying t with
    | some .bool => some [.bool]
    | some (.int k) => some [.int k]
    | some .string => some [.str]
    | some (.struct fs) => flats (flat P n) P 0 fs.toList
    | _ => none

section
variable {H : Type} {enc : TypeId × Value → H} {P : Program} {w : World} {base : Nat} {spare : Nat → Bool} {held : Bool}

theorem flats_open {leaves : TypeId → Option (List Leaf)} {m : Nat} (cs : List Value)
    (hrec : ∀ (t : TypeId) (ls : List Leaf) (cs : List Value) (x : DataW H × List MemPlace), leaves t = some ls → DataW.trod enc P w base spare held m t cs = some x → x.2 = [] ∧ All2 ls cs) :
    ∀ (fs : List Field) (o : Nat) (ls : List Leaf) (xs : List (DataW H × List MemPlace)), flats leaves P o fs = some ls → xs.length = fs.length →
      (∀ (i : Nat) (f : Field), fs[i]? = some f → DataW.trod enc P w base spare held m f.type ((cs.drop f.offset).take (P.cellsOf f.type)) = xs[i]?) →
      xs.flatMap (·.2) = [] ∧ ∃ e, All2 ls ((cs.drop o).take e) ∧ e = ls.length
  | [], o, ls, xs, h, hl, _ => by
    simp only [flats, Option.some.injEq] at h
    subst h
    obtain rfl : xs = [] := List.length_eq_zero_iff.mp hl
    exact ⟨rfl, 0, rfl, rfl⟩
  | f :: fs, o, ls, xs, h, hl, hx => by
    match xs, hl with
    | x :: xs, hl =>
      rw [flats] at h
      cases hf : leaves f.type with
      | none => rw [hf] at h; cases h
      | some l =>
        rw [hf] at h
        simp only at h
        by_cases c : f.offset = o ∧ l.length = P.cellsOf f.type
        · rw [if_pos c] at h
          cases hr : flats leaves P (o + P.cellsOf f.type) fs with
          | none => rw [hr] at h; cases h
          | some r =>
            rw [hr] at h
            simp only [Option.map_some, Option.some.injEq] at h
            subst h
            obtain ⟨e1, e2⟩ := hrec f.type l _ x hf (hx 0 f rfl)
            obtain ⟨i1, e, i2, i3⟩ := flats_open cs hrec fs _ r xs hr (by simpa using hl) (fun i f' hf' => by simpa using hx (i + 1) f' hf')
            refine ⟨by simp [e1, i1], P.cellsOf f.type + e, ?_, by rw [List.length_append, i3, c.2]⟩
            rw [c.1] at e2
            rw [List.take_add, List.drop_drop]
            exact e2.append i2
        · rw [if_neg c] at h; cases h
theorem flat_open : ∀ (n m : Nat) (t : TypeId) (ls : List Leaf) (cs : List Value) (x : DataW H × List MemPlace), flat P n t = some ls → DataW.trod enc P w base spare held m t cs = some x → ls.length = P.cellsOf t → x.2 = [] ∧ All2 ls cs
  | 0, _, _, _, _, _, h, _, _ => by cases h
  | n + 1, m, t, ls, cs, x, h, hx, hc => by
    rw [flat] at h
    split at h
    · rename_i hu
      cases h
      cases m with
      | zero => simp [DataW.trod] at hx
      | succ m =>
        unfold DataW.trod at hx
        rw [hu] at hx
        split at hx <;> simp_all
        exact ⟨by rw [← hx], .bool _, [], rfl, ⟨_, rfl⟩, rfl⟩
    · rename_i k hu
      cases h
      obtain ⟨n', h, hx, hw⟩ := DataW.trod_int hu hx
      subst hx
      exact ⟨rfl, _, [], h, ⟨n', rfl, hw⟩, rfl⟩
    · rename_i hu
      cases h
      cases m with
      | zero => simp [DataW.trod] at hx
      | succ m =>
        unfold DataW.trod at hx
        rw [hu] at hx
        split at hx <;> simp_all
        obtain ⟨h1, h2⟩ := hx
        exact ⟨by rw [← h2], .string _, [], rfl, ⟨_, rfl, h1⟩, rfl⟩
    · rename_i fs hu
      obtain ⟨xs, m', rfl, rfl, hl, hlen, hf⟩ := DataW.trod_struct hu hx
      obtain ⟨i1, e, i2, i3⟩ := flats_open (enc := enc) (P := P) (w := w) (base := base) (spare := spare) (held := held) (m := m') cs
        (leaves := fun t => match flat P n t with | some l => if l.length = P.cellsOf t then some l else none | none => none)
        (fun t ls cs x h1 h2 => by
          cases hq : flat P n t with
          | none => simp [hq] at h1
          | some l =>
            simp only [hq] at h1
            by_cases c : l.length = P.cellsOf t
            · rw [if_pos c] at h1; cases h1
              exact flat_open n m' t _ cs x hq h2 c
            · rw [if_neg c] at h1; cases h1)
        fs.toList 0 ls xs (by
          rw [← h]
          generalize fs.toList = l
          generalize 0 = o
          induction l generalizing o with
          | nil => rfl
          | cons f l ih =>
            simp only [flats]
            cases hq : flat P n f.type with
            | none => simp
            | some q =>
              simp only
              by_cases c : q.length = P.cellsOf f.type
              · rw [if_pos c]; simp only [ih]
              · rw [if_neg c, if_neg (by simp [c])]) (by simpa using hlen) (fun i f h => hf i f (by simpa using h))
      refine ⟨i1, ?_⟩
      have : cs.drop 0 = cs := rfl
      rw [this, List.take_of_length_le (by rw [hl, i3, hc]; exact Nat.le_refl _)] at i2
      exact i2
    · cases h

/-- A struct of leaves, opened. -/
theorem open_flat {n : Nat} {t : TypeId} {fs : Array Field} {ls : List Leaf} {r : Reach} {b0 : Nat} {v : Value} {d : DataW H} {ps : List MemPlace} (ht : P.underlying t = some (.struct fs))
    (hl : flat P n t = some ls) (hc : ls.length = P.cellsOf t) (hval : Value.okWide P w r b0 t v) (hd : DataW.Trod enc P w base spare held t v d ps) :
    ∃ cs : List Value, v = .agg cs.toArray ∧ ps = [] ∧ All2 ls cs := by
  obtain ⟨cs, rfl, _⟩ := okWide_struct ht hval
  obtain ⟨fuel, hf⟩ := hd
  obtain ⟨h1, h2⟩ := flat_open n fuel t ls cs.toList (d, ps) hl hf hc
  exact ⟨cs.toList, rfl, h1, h2⟩
end
end Go.Proofs.Ytcemdkppkklfnaa.Opens
