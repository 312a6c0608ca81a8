/- A logic of values over the model. Part J: what a law is handed, and what is told of it in the end. -/
import Derived.Test.YthpkhecialkmmaaKeVmI
import Derived.ProofKit
import Derived.OpenShut
import Derived.ShutString
import Derived.ChangeMaps5
import Derived.ChangeSame
import Derived.WideShapes
set_option linter.unusedVariables false
set_option linter.unusedSimpArgs false
namespace Go.Vm
open Go.ChangeShapes Go.WideShapes Go.ChangeAt Go.RowKit Go.ChangeMaps
/-- A world as it is found: all of it stays as it is. -/
def X0 (w : World) : Ctx := ⟨fun b => if b < w.heap.size then .frz else .free, fun _ => 0, fun _ => .dead, w⟩
theorem R0 (w : World) : R 0 (X0 w) := ⟨fun _ _ => rfl, fun b hb => if_neg (by show ¬ b < w.heap.size; exact Nat.not_lt.2 hb), fun k cs h => (by cases h), fun k v e rows h => (by cases h), fun k o h => (by cases h)⟩
theorem cell_lt {w : World} {a : Addr} {u : Value} (h : w.cell? a = some u) : a.block < w.heap.size := by
  unfold World.cell? at h
  split at h
  · rename_i hb; exact (Array.getElem?_eq_some_iff.1 hb).1
  · cases h
theorem add_add' (a : Addr) (m n : Nat) : (a.add m).add n = a.add (m + n) := by
  unfold Addr.add
  by_cases h1 : m = 0 <;> by_cases h2 : n = 0 <;> simp [h1, h2, Nat.add_assoc]
theorem cell_spot {w : World} {a : Addr} {u : Value} (h : w.cell? a = some u) : a.spot = none := by
  unfold World.cell? at h
  split at h
  · split at h
    · cases h
    · rename_i hs; simpa using hs
  · cases h
/-- A law: what its function answers, in any world. -/
theorem Does.law {P : Program} {f : FuncId} {vs : List V} (h : Does P f vs [] [] (.sc (.bool true))) (w : World) (args : Array Value) (hr : RowRep (X0 w) vs args.toList) : Calls P f args w fun e w' => e = .returned (.bool true) ∧ Below w.heap.size w w' := by
  refine (h 0 (X0 w) args (R0 w) hr (fun p hp => by cases hp) (fun p hp => by cases hp)).mono fun e w' ⟨X', u, he, hv, _, _, hx, hw⟩ => ?_
  simp only [VRep] at hv
  subst hv
  subst hw
  refine ⟨he, ⟨hx.os, hx.tape, hx.output, hx.size, fun k hk => (hx.frz k (if_pos hk)).2⟩⟩
/-- Whatever lies at a place of type t reads as values told by vs. -/
structure VOp (P : Program) (t : TypeId) {α : Type} (sz : Nat) (vs : α → List V) (ok : α → Prop) : Prop where
  size : P.cellsOf t = sz
  len : ∀ a, (vs a).length = sz
  opn : ∀ {H : Type} (enc : TypeId × Value → H) (w : World) (base : Nat) (spare : Nat → Bool) (held : Bool) (fuel : Nat) (cs : List Value) (x : DataW H × List MemPlace),
    DataW.trod enc P w base spare held fuel t cs = some x → ∃ a, RowRep (X0 w) (vs a) cs ∧ (∀ u ∈ cs, oneV u = true) ∧ ok a
def VOpF (P : Program) (fs : List Field) (o : Nat) {α : Type} (sz : Nat) (vs : α → List V) (ok : α → Prop) : Prop :=
  (∀ a, (vs a).length = sz) ∧ ∀ {H : Type} (enc : TypeId × Value → H) (w : World) (base : Nat) (spare : Nat → Bool) (held : Bool) (cs : List Value),
    (∀ (i : Nat) (f : Field), fs[i]? = some f → ∃ n x, DataW.trod enc P w base spare held n f.type ((cs.drop f.offset).take (P.cellsOf f.type)) = some x) → ∃ a, RowRep (X0 w) (vs a) ((cs.drop o).take sz) ∧ (∀ u ∈ (cs.drop o).take sz, oneV u = true) ∧ ok a
section
variable {P : Program} {t e : TypeId} {α β : Type} {sz sz' : Nat} {vs : α → List V} {ok : α → Prop} {vs' : β → List V} {ok' : β → Prop}
theorem row1 {X : Ctx} {v : V} {u : Value} (h : VRep X v u) : RowRep X [v] [u] := by
  simp only [RowRep]; exact ⟨u, [], rfl, h, rfl⟩
theorem row_cons {X : Ctx} {v : V} {u : Value} {vs : List V} {us : List Value} (h : VRep X v u) (hr : RowRep X vs us) : RowRep X (v :: vs) (u :: us) := by
  simp only [RowRep]; exact ⟨u, us, rfl, h, hr⟩
theorem row_nil {X : Ctx} : RowRep X [] [] := by simp [RowRep]
theorem vop_int {k : IntKind} (ht : P.underlying t = some (.int k)) (hc : P.cellsOf t = 1) : VOp P t 1 (fun n : Int => [.sc (.int k n)]) (fun n => (Lit.int k n).wf = true) :=
  ⟨hc, fun _ => rfl, fun enc w base spare held fuel cs x h => by
    obtain ⟨n, rfl, _, hw⟩ := DataW.trod_int ht h
    exact ⟨n, row1 (by simp [VRep]), fun u hu => by simp only [List.mem_singleton] at hu; subst hu; rfl, hw⟩⟩
theorem vop_bool (ht : P.underlying t = some .bool) (hc : P.cellsOf t = 1) : VOp P t 1 (fun n : Bool => [.sc (.bool n)]) (fun _ => True) :=
  ⟨hc, fun _ => rfl, fun enc w base spare held fuel cs x h => by
    obtain ⟨n, rfl, _⟩ := DataW.trod_bool ht h
    exact ⟨n, row1 (by simp [VRep]), fun u hu => by simp only [List.mem_singleton] at hu; subst hu; rfl, trivial⟩⟩
theorem vop_string (ht : P.underlying t = some .string) (hc : P.cellsOf t = 1) : VOp P t 1 (fun s : ByteArray => [.sc (.string s)]) (fun s => s.size ≤ maxLen) :=
  ⟨hc, fun _ => rfl, fun enc w base spare held fuel cs x h => by
    obtain ⟨n, rfl, _, hs⟩ := DataW.trod_string ht h
    exact ⟨n, row1 (by simp [VRep]), fun u hu => by simp only [List.mem_singleton] at hu; subst hu; rfl, hs⟩⟩
theorem exists_list {β : Type} {Q : Nat → β → Prop} : ∀ (n : Nat), (∀ i, i < n → ∃ b, Q i b) → ∃ xs : List β, xs.length = n ∧ ∀ i b, xs[i]? = some b → Q i b
  | 0, _ => ⟨[], rfl, fun i b h => by simp at h⟩
  | n + 1, h => by
    obtain ⟨xs, hl, hx⟩ := exists_list n (fun i hi => h i (by omega))
    obtain ⟨b, hb⟩ := h n (by omega)
    refine ⟨xs ++ [b], by simp [hl], fun i c hc => ?_⟩
    by_cases hi : i < n
    · rw [List.getElem?_append_left (by omega)] at hc; exact hx i c hc
    · rw [List.getElem?_append_right (by omega)] at hc
      have hi0 : i - xs.length = 0 := by
        rcases Nat.eq_zero_or_pos (i - xs.length) with h0 | h0
        · exact h0
        · rw [List.getElem?_eq_none (by simp; omega)] at hc; cases hc
      rw [hi0] at hc
      simp at hc
      subst hc
      rwa [show i = n by omega]
theorem cellsAt_open {X : Ctx} {b : Nat} : ∀ (vs : List V) (us : List Value) (o : Nat), RowRep X vs us → (∀ u ∈ us, oneV u = true) → (∀ j u, us[j]? = some u → X.w.cell? ⟨b, o + j, none⟩ = some u ∧ Stb (X.O b) (o + j)) → CellsAt X vs b o
  | [], us, o, h, _, _ => by simp [CellsAt]
  | v :: vs, us, o, h, h1, h2 => by
    simp only [RowRep] at h
    obtain ⟨u, us', rfl, hv, hr⟩ := h
    simp only [CellsAt]
    refine ⟨⟨u, (h2 0 u rfl).1, hv, (h2 0 u rfl).2, h1 u (List.mem_cons_self ..)⟩, cellsAt_open vs us' (o + 1) hr (fun u hu => h1 u (List.mem_cons_of_mem _ hu)) (fun j u hu => ?_)⟩
    have := h2 (j + 1) u hu
    rwa [show o + (j + 1) = o + 1 + j by omega] at this
theorem rowsAt_open {X : Ctx} {b : Nat} {sz : Nat} {vs : α → List V} (hlen : ∀ a, (vs a).length = sz) : ∀ (xs : List α) (o : Nat), (∀ i x, xs[i]? = some x → CellsAt X (vs x) b (o + i * sz)) → RowsAt X sz (xs.map vs) b o
  | [], o, _ => by simp [RowsAt]
  | x :: xs, o, h => by
    simp only [List.map_cons, RowsAt]
    refine ⟨hlen x, by have := h 0 x rfl; simpa using this, rowsAt_open hlen xs (o + sz) fun i y hy => ?_⟩
    have := h (i + 1) y hy
    rwa [show o + (i + 1) * sz = o + sz + i * sz by rw [Nat.succ_mul]; omega] at this
theorem vop_slice (ht : P.underlying t = some (.slice e)) (hc : P.cellsOf t = 1) (h0 : VOp P e sz vs ok) (hp : 0 < sz) : VOp P t 1 (fun xs : List α => [.sl sz (xs.map vs)]) (fun xs => xs.length ≤ maxLen ∧ ∀ x ∈ xs, ok x) :=
  ⟨hc, fun _ => rfl, fun enc w base spare held fuel cs x h => by
    rcases DataW.trod_slice ht h with ⟨rfl, _⟩ | ⟨a, len, cap, elems, rest, n, _, rfl, _, hb, hl, hm, he, hel, _, _⟩
    · exact ⟨[], row1 (by simp [VRep]), fun u hu => by simp only [List.mem_singleton] at hu; subst hu; rfl, by simp, fun x h => by cases h⟩
    · have key : ∀ i, i < len → ∃ b, (∃ cs', cs'.length = sz ∧ RowRep (X0 w) (vs b) cs' ∧ (∀ u ∈ cs', oneV u = true) ∧ ∀ j u, cs'[j]? = some u → w.cell? (a.add (i * sz + j)) = some u) ∧ ok b := by
        intro i hi
        have h1 := hel i hi
        rw [List.getElem?_eq_getElem (by omega)] at h1
        obtain ⟨cs', hcs, htr⟩ := Option.bind_eq_some_iff.mp h1
        obtain ⟨b, hK, h1v, hok⟩ := h0.opn enc w base spare held n cs' _ htr
        refine ⟨b, ⟨cs', by rw [← hK.length, h0.len], hK, h1v, fun j u hu => ?_⟩, hok⟩
        have hj : j < cs'.length := (List.getElem?_eq_some_iff.1 hu).1
        have h2 := World.cells?_some hcs
        rw [h0.size] at h2
        have h3 := h2.2.2 j (by rw [← h2.2.1]; exact hj)
        rw [add_add'] at h3
        rw [h3]
        exact hu
      obtain ⟨xs, hxl, hx⟩ := exists_list len key
      refine ⟨xs, row1 ?_, fun u hu => by simp only [List.mem_singleton] at hu; subst hu; rfl, by omega, fun x hxm => ?_⟩
      · simp only [VRep]
        refine ⟨some a, cap, by rw [List.length_map, hxl], by rw [List.length_map]; omega, ?_⟩
        rcases Nat.eq_zero_or_pos len with h0' | h0'
        · left; rw [h0'] at hxl; rw [List.length_eq_zero_iff.1 hxl]; rfl
        · right
          have hsp : a.spot = none := by
            obtain ⟨⟨cs', h1, _, _, h3⟩, _⟩ := hx 0 _ (List.getElem?_eq_getElem (by omega))
            have h4 := h3 0 _ (List.getElem?_eq_getElem (by omega))
            have h5 := cell_spot h4
            simpa [Addr.add] using h5
          obtain ⟨b, q, sp⟩ := a
          simp only at hsp
          subst hsp
          refine ⟨b, q, rfl, rowsAt_open h0.len xs q fun i x hi => ?_⟩
          obtain ⟨⟨cs', h1, h2, h3, h4⟩, _⟩ := hx i x hi
          refine cellsAt_open _ cs' _ h2 h3 fun j u hu => ?_
          have h5 := h4 j u hu
          have h6 : (⟨b, q, none⟩ : Addr).add (i * sz + j) = ⟨b, q + i * sz + j, none⟩ := by
            unfold Addr.add; split
            · rename_i hz; rw [show q + i * sz + j = q by omega]
            · simp only [Nat.add_assoc]
          rw [h6] at h5
          exact ⟨h5, by rw [show (X0 w).O b = .frz from if_pos (cell_lt h5)]; simp [Stb]⟩
      · obtain ⟨i, hi, rfl⟩ := List.getElem_of_mem hxm
        exact (hx i _ (List.getElem?_eq_getElem hi)).2⟩
theorem vopF_one {f : Field} {o : Nat} (ho : f.offset = o) (h : VOp P f.type sz vs ok) : VOpF P [f] o sz vs ok := ⟨h.len, fun enc w base spare held cs hf => by
  obtain ⟨n, x, hx⟩ := hf 0 f rfl
  obtain ⟨a, hK, h1, hok⟩ := h.opn enc w base spare held n _ x hx
  rw [h.size, ho] at hK h1
  exact ⟨a, hK, h1, hok⟩⟩
theorem vopF_cons {f : Field} {fs : List Field} {o : Nat} (ho : f.offset = o) (h : VOp P f.type sz vs ok) (hr : VOpF P fs (o + sz) sz' vs' ok') : VOpF P (f :: fs) o (sz + sz') (fun x : α × β => vs x.1 ++ vs' x.2) (fun x => ok x.1 ∧ ok' x.2) := ⟨fun x => by rw [List.length_append, h.len, hr.1], fun enc w base spare held cs hf => by
  obtain ⟨n, x, hx⟩ := hf 0 f rfl
  obtain ⟨a, hK, h1, hok⟩ := h.opn enc w base spare held n _ x hx
  rw [h.size, ho] at hK h1
  obtain ⟨b, hK', h1', hok'⟩ := hr.2 enc w base spare held cs (fun i g hg => hf (i + 1) g hg)
  have e1 : (cs.drop o).take (sz + sz') = (cs.drop o).take sz ++ (cs.drop (o + sz)).take sz' := by rw [List.take_add, List.drop_drop]
  rw [e1]
  exact ⟨(a, b), hK.append hK', fun u hu => (List.mem_append.1 hu).elim (h1 u) (h1' u), hok, hok'⟩⟩
theorem vop_struct {fs : Array Field} (ht : P.underlying t = some (.struct fs)) (hc : P.cellsOf t = sz) (h : VOpF P fs.toList 0 sz vs ok) : VOp P t sz vs ok :=
  ⟨hc, h.1, fun enc w base spare held fuel cs x hx => by
    obtain ⟨xs, n, rfl, _, hl, hxl, hf⟩ := DataW.trod_struct ht hx
    obtain ⟨a, hK, h1, hok⟩ := h.2 enc w base spare held cs (fun i f hfi => by
      have hi : fs[i]? = some f := by rw [← Array.getElem?_toList]; exact hfi
      have h1 := hf i f hi
      have hlt : i < fs.size := (Array.getElem?_eq_some_iff.1 hi).1
      rw [List.getElem?_eq_getElem (by omega)] at h1
      exact ⟨n, _, h1⟩)
    rw [List.drop_zero, List.take_of_length_le (by omega)] at hK h1
    exact ⟨a, hK, h1, hok⟩⟩
theorem vop_iso {vs2 : β → List V} {ok2 : β → Prop} (h : VOp P t sz vs ok) (g : α → β) (hv : ∀ a, vs2 (g a) = vs a) (hok : ∀ a, ok a → ok2 (g a)) (hlen : ∀ b, (vs2 b).length = sz) : VOp P t sz vs2 ok2 :=
  ⟨h.size, hlen, fun enc w base spare held fuel cs x hx => by
    obtain ⟨a, hK, h1, ho⟩ := h.opn enc w base spare held fuel cs x hx
    exact ⟨g a, by rw [hv]; exact hK, h1, hok a ho⟩⟩
/-- A slice that is handed in. -/
theorem open_vslice {H : Type} {enc : TypeId × Value → H} {w : World} {base : Nat} {spare : Nat → Bool} {held : Bool} {a : Option Addr} {len cap : Nat} {D : DataW H} {ps : List MemPlace} (ht : P.underlying t = some (.slice e)) (hc : P.cellsOf t = 1) (hp : 0 < sz)
    (h0 : VOp P e sz vs ok) (h : DataW.Trod enc P w base spare held t (.slice a len cap) D ps) : ∃ xs : List α, VRep (X0 w) (.sl sz (xs.map vs)) (.slice a len cap) ∧ xs.length ≤ maxLen ∧ ∀ x ∈ xs, ok x := by
  obtain ⟨fuel, hf⟩ := h
  obtain ⟨xs, hr, _, hm, hok⟩ := (vop_slice ht hc h0 hp).opn enc w base spare held fuel _ _ hf
  simp only [Value.cells] at hr
  simp only [RowRep] at hr
  obtain ⟨u, us', he, hv, _⟩ := hr
  cases he
  exact ⟨xs, hv, hm, hok⟩
/-- A struct that is handed in. -/
theorem open_vstruct {H : Type} {enc : TypeId × Value → H} {w : World} {base : Nat} {spare : Nat → Bool} {held : Bool} {r : Reach} {b0 : Nat} {v : Value} {fs : Array Field} {D : DataW H} {ps : List MemPlace} (ht : P.underlying t = some (.struct fs))
    (h0 : VOp P t sz vs ok) (hval : Value.okWide P w r b0 t v) (h : DataW.Trod enc P w base spare held t v D ps) : ∃ (x : α), VRep (X0 w) (.agg (vs x)) v ∧ ok x := by
  obtain ⟨cs, rfl, _⟩ := okWide_struct ht hval
  obtain ⟨fuel, hf⟩ := h
  obtain ⟨x, hK, h1, hok⟩ := h0.opn enc w base spare held fuel _ _ hf
  refine ⟨x, ?_, hok⟩
  simp only [VRep]
  exact ⟨cs.toList, rfl, hK, h1⟩
end
end Go.Vm

