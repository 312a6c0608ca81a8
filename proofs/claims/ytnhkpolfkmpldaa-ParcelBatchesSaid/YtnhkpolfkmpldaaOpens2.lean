/- Values of any readable type, opened: what a parameter's places hold is told in the seat's kinds (Kd). -/
import Derived.ProofKit
import Derived.OpenShut
import Derived.ShutString
import Derived.ChangeMaps5
import Derived.ChangeSame
import Derived.WideShapes
import Derived.Test.YtnhkpolfkmpldaaWWords
import Derived.Test.YtnhkpolfkmpldaaWMore
namespace Go.Proofs.Ytnhkpolfkmpldaa.Opens2
open Go.ChangeShapes Go.WideShapes Go.ChangeAt Go.RowKit Go.ChangeMaps Go.Proofs.YtnhkpolfkmpldaaW.PrintWords
set_option linter.unusedVariables false
set_option linter.unusedSimpArgs false

/-- Whatever lies at a place of type t reads as a value of the kind d that keeps ok. -/
def Op (P : Program) (t : TypeId) {α : Type} (d : Kd α) (ok : α → Prop) : Prop :=
  P.cellsOf t = d.sz ∧ ∀ {H : Type} (enc : TypeId × Value → H) (w : World) (base : Nat) (spare : Nat → Bool) (held : Bool) (fuel : Nat) (cs : List Value) (x : DataW H × List MemPlace),
    DataW.trod enc P w base spare held fuel t cs = some x → ∃ a, d.K w a cs ∧ ok a
/-- The fields from here on. -/
def OpF (P : Program) (fs : List Field) (o : Nat) {α : Type} (d : Kd α) (ok : α → Prop) : Prop :=
  ∀ {H : Type} (enc : TypeId × Value → H) (w : World) (base : Nat) (spare : Nat → Bool) (held : Bool) (cs : List Value),
    (∀ (i : Nat) (f : Field), fs[i]? = some f → ∃ n x, DataW.trod enc P w base spare held n f.type ((cs.drop f.offset).take (P.cellsOf f.type)) = some x) → ∃ a, d.K w a ((cs.drop o).take d.sz) ∧ ok a
section
variable {P : Program} {t e : TypeId} {α β : Type} {d : Kd α} {ok : α → Prop} {d' : Kd β} {ok' : β → Prop}
theorem op_int {k : IntKind} (ht : P.underlying t = some (.int k)) (hc : P.cellsOf t = 1) : Op P t (Kd.int k) (fun n => (Lit.int k n).wf = true) :=
  ⟨hc, fun enc w base spare held fuel cs x h => by
    obtain ⟨n, rfl, _, hw⟩ := DataW.trod_int ht h
    exact ⟨n, rfl, hw⟩⟩
theorem op_bool (ht : P.underlying t = some .bool) (hc : P.cellsOf t = 1) : Op P t Kd.bool (fun _ => True) :=
  ⟨hc, fun enc w base spare held fuel cs x h => by
    obtain ⟨n, rfl, _⟩ := DataW.trod_bool ht h
    exact ⟨n, rfl, trivial⟩⟩
theorem op_string (ht : P.underlying t = some .string) (hc : P.cellsOf t = 1) : Op P t Kd.string (fun s => s.size ≤ maxLen) :=
  ⟨hc, fun enc w base spare held fuel cs x h => by
    obtain ⟨n, rfl, _, hs⟩ := DataW.trod_string ht h
    exact ⟨n, rfl, hs⟩⟩
theorem exists_list {β : Type} {Q : Nat → β → Prop} : ∀ (n : Nat), (∀ i, i < n → ∃ b, Q i b) → ∃ xs : List β, xs.length = n ∧ ∀ i b, xs[i]? = some b → Q i b
  | 0, _ => ⟨[], rfl, fun i b h => by simp at h⟩
  | n + 1, h => by
    obtain ⟨xs, hl, hx⟩ := exists_list n (fun i hi => h i (by omega))
    obtain ⟨b, hb⟩ := h n (by omega)
    refine ⟨xs ++ [b], by simp [hl], fun i c hc => ?_⟩
    by_cases hi : i < n
    · rw [List.getElem?_append_left (by omega)] at hc; exact hx i c hc
    · rw [List.getElem?_append_right (by omega)] at hc
      have hi0 : i - xs.length = 0 := by
        rcases Nat.eq_zero_or_pos (i - xs.length) with h0 | h0
        · exact h0
        · rw [List.getElem?_eq_none (by simp; omega)] at hc; cases hc
      rw [hi0] at hc
      simp at hc
      subst hc
      rwa [show i = n by omega]
theorem op_slice (ht : P.underlying t = some (.slice e)) (hc : P.cellsOf t = 1) (h0 : Op P e d ok) : Op P t (Kd.slice e d) (fun xs => xs.length ≤ maxLen ∧ ∀ x ∈ xs, ok x) :=
  ⟨hc, fun enc w base spare held fuel cs x h => by
    rcases DataW.trod_slice ht h with ⟨rfl, _⟩ | ⟨a, len, cap, elems, rest, n, _, rfl, _, hb, hl, hm, he, hel, _, _⟩
    · exact ⟨[], ⟨none, 0, rfl, Nat.le_refl _, Kd.C_nil _ _⟩, by simp, fun x h => by cases h⟩
    · have key : ∀ i, i < len → ∃ b, (∃ cs', cs'.length = d.sz ∧ d.K w b cs' ∧ ∀ j u, cs'[j]? = some u → w.cell? (a.add (i * d.sz + j)) = some u) ∧ ok b := by
        intro i hi
        have h1 := hel i hi
        rw [List.getElem?_eq_getElem (by omega)] at h1
        obtain ⟨cs', hcs, htr⟩ := Option.bind_eq_some_iff.mp h1
        obtain ⟨b, hK, hok⟩ := h0.2 enc w base spare held n cs' _ htr
        refine ⟨b, ⟨cs', d.K_len hK, hK, fun j u hu => ?_⟩, hok⟩
        have hj : j < cs'.length := (List.getElem?_eq_some_iff.1 hu).1
        have h2 := World.cells?_some hcs
        rw [h0.1] at h2
        have h3 := h2.2.2 j (by rw [← h2.2.1]; exact hj)
        rw [Addr.add_add] at h3
        rw [h3]
        exact hu
      obtain ⟨xs, hxl, hx⟩ := exists_list len key
      have hC : Kd.C d w (some a) len xs := ⟨hxl, by simp only [maxLen] at hm; omega, fun _ => ⟨a, rfl, fun j p hp => by
        obtain ⟨⟨cs', h1, h2, h3⟩, _⟩ := hx j p hp
        exact ⟨cs', h1, h2, fun i u hu => h3 i u hu⟩⟩⟩
      refine ⟨xs, ⟨some a, cap, by rw [hxl], by omega, by rw [hxl]; exact hC⟩, by omega, fun x hxm => ?_⟩
      obtain ⟨i, hi, rfl⟩ := List.getElem_of_mem hxm
      exact (hx i _ (List.getElem?_eq_getElem hi)).2⟩
theorem opF_one {f : Field} {o : Nat} (ho : f.offset = o) (h : Op P f.type d ok) : OpF P [f] o d ok := fun enc w base spare held cs hf => by
  obtain ⟨n, x, hx⟩ := hf 0 f rfl
  obtain ⟨a, hK, hok⟩ := h.2 enc w base spare held n _ x hx
  rw [h.1, ho] at hK
  exact ⟨a, hK, hok⟩
theorem opF_cons {f : Field} {fs : List Field} {o : Nat} (ho : f.offset = o) (h : Op P f.type d ok) (hr : OpF P fs (o + d.sz) d' ok') : OpF P (f :: fs) o (Kd.pair d d') (fun x => ok x.1 ∧ ok' x.2) := fun enc w base spare held cs hf => by
  obtain ⟨n, x, hx⟩ := hf 0 f rfl
  obtain ⟨a, hK, hok⟩ := h.2 enc w base spare held n _ x hx
  rw [h.1, ho] at hK
  obtain ⟨b, hK', hok'⟩ := hr enc w base spare held cs (fun i g hg => hf (i + 1) g hg)
  refine ⟨(a, b), ⟨_, _, ?_, hK, hK'⟩, hok, hok'⟩
  show (cs.drop o).take (d.sz + d'.sz) = _
  rw [List.take_add, List.drop_drop]
/-- A field that is a struct: its own fields stand in its place. -/
theorem opF_in {f : Field} {fs : List Field} {gs : Array Field} {o : Nat} (hu : P.underlying f.type = some (.struct gs)) (hin : ∀ g ∈ gs.toList, g.offset + P.cellsOf g.type ≤ P.cellsOf f.type)
    (h : OpF P (gs.toList.map (fun g => { g with offset := f.offset + g.offset }) ++ fs) o d ok) : OpF P (f :: fs) o d ok := fun enc w base spare held cs hf => by
  refine h enc w base spare held cs fun i g hg => ?_
  by_cases hi : i < gs.toList.length
  · rw [List.getElem?_append_left (by simpa using hi)] at hg
    rw [List.getElem?_map, List.getElem?_eq_getElem hi] at hg
    simp only [Option.map_some, Option.some.injEq] at hg
    subst hg
    obtain ⟨n, x, hx⟩ := hf 0 f rfl
    obtain ⟨xs, m, rfl, _, hl, hxl, hfx⟩ := DataW.trod_struct hu hx
    have h1 := hfx i (gs.toList[i]) (by rw [← Array.getElem?_toList]; exact List.getElem?_eq_getElem hi)
    rw [List.getElem?_eq_getElem (by rw [hxl]; simpa using hi)] at h1
    refine ⟨m, xs[i]'(by rw [hxl]; simpa using hi), ?_⟩
    have hb := hin _ (List.getElem_mem hi)
    rw [List.drop_take, List.take_take, Nat.min_eq_left (by omega), List.drop_drop] at h1
    exact h1
  · rw [List.getElem?_append_right (by simpa using hi)] at hg
    exact hf (i - gs.toList.length + 1) g (by simpa using hg)
theorem op_struct {fs : Array Field} (ht : P.underlying t = some (.struct fs)) (hc : P.cellsOf t = d.sz) (h : OpF P fs.toList 0 d ok) : Op P t d ok :=
  ⟨hc, fun enc w base spare held fuel cs x hx => by
    obtain ⟨xs, n, rfl, _, hl, hxl, hf⟩ := DataW.trod_struct ht hx
    obtain ⟨a, hK, hok⟩ := h enc w base spare held cs (fun i f hfi => by
      have hi : fs[i]? = some f := by rw [← Array.getElem?_toList]; exact hfi
      have h1 := hf i f hi
      have hlt : i < fs.size := (Array.getElem?_eq_some_iff.1 hi).1
      rw [List.getElem?_eq_getElem (by omega)] at h1
      exact ⟨n, _, h1⟩)
    rw [List.drop_zero, List.take_of_length_le (by omega)] at hK
    exact ⟨a, hK, hok⟩⟩
theorem op_iso (h : Op P t d ok) (f : β → α) (g : α → β) (hg : ∀ y, f (g y) = y) : Op P t (Kd.iso d f) (fun x => ok (f x)) :=
  ⟨h.1, fun enc w base spare held fuel cs x hx => by
    obtain ⟨a, hK, hok⟩ := h.2 enc w base spare held fuel cs x hx
    exact ⟨g a, by show d.K w (f (g a)) cs; rw [hg]; exact hK, by show ok (f (g a)); rw [hg]; exact hok⟩⟩
theorem op_mono {ok2 : α → Prop} (h : Op P t d ok) (hi : ∀ a, ok a → ok2 a) : Op P t d ok2 :=
  ⟨h.1, fun enc w base spare held fuel cs x hx => by
    obtain ⟨a, hK, hok⟩ := h.2 enc w base spare held fuel cs x hx
    exact ⟨a, hK, hi a hok⟩⟩
/-- A slice that is handed in. -/
theorem open_slice {H : Type} {enc : TypeId × Value → H} {w : World} {base : Nat} {spare : Nat → Bool} {held : Bool} {a : Option Addr} {len cap : Nat} {D : DataW H} {ps : List MemPlace} (ht : P.underlying t = some (.slice e)) (hc : P.cellsOf t = 1)
    (h0 : Op P e d ok) (h : DataW.Trod enc P w base spare held t (.slice a len cap) D ps) : ∃ xs : List α, len = xs.length ∧ xs.length ≤ cap ∧ Kd.C d w a xs.length xs ∧ xs.length ≤ maxLen ∧ ∀ x ∈ xs, ok x := by
  obtain ⟨fuel, hf⟩ := h
  obtain ⟨xs, ⟨A, c, hcs, hl, hC⟩, hm, hok⟩ := (op_slice ht hc h0).2 enc w base spare held fuel _ _ hf
  simp [Value.cells] at hcs
  obtain ⟨rfl, rfl, rfl⟩ := hcs
  exact ⟨xs, rfl, hl, hC, hm, hok⟩
/-- A struct that is handed in. -/
theorem open_struct {H : Type} {enc : TypeId × Value → H} {w : World} {base : Nat} {spare : Nat → Bool} {held : Bool} {r : Reach} {b0 : Nat} {v : Value} {fs : Array Field} {D : DataW H} {ps : List MemPlace} (ht : P.underlying t = some (.struct fs))
    (h0 : Op P t d ok) (hval : Value.okWide P w r b0 t v) (h : DataW.Trod enc P w base spare held t v D ps) : ∃ (cs : List Value) (x : α), v = .agg cs.toArray ∧ d.K w x cs ∧ ok x := by
  obtain ⟨cs, rfl, _⟩ := okWide_struct ht hval
  obtain ⟨fuel, hf⟩ := h
  obtain ⟨x, hK, hok⟩ := h0.2 enc w base spare held fuel _ _ hf
  exact ⟨cs.toList, x, rfl, hK, hok⟩
end
end Go.Proofs.Ytnhkpolfkmpldaa.Opens2
