/- Walks by the logic of values. -/
import Derived.Test.YtldlmmpniddbcaaKpVa
import Derived.Test.YtldlmmpniddbcaaKpVc
import Derived.Test.YtldlmmpniddbcaaKpVo
import Derived.Test.YtldlmmpniddbcaaKpVg
import Derived.Test.YtldlmmpniddbcaaKpVk
namespace Go.Proofs.Ytldlmmpniddbcaa
open Go.Vm
set_option linter.unusedVariables false
set_option linter.unusedSimpArgs false
attribute [local irreducible] Go.Vm.beB Go.Vm.fieldB
structure Inv (n : Nat) (m : List Rc) : Prop where
  len : m.length ≤ 5 * n
  ids : (m.map (·.id)).Nodup
  val : ∀ r ∈ m, r.val.size ≤ 15
theorem mem_set_gh {m : List Rc} {k : Nat} {x r : Rc} (h : r ∈ m.set k x) : r ∈ m ∨ r = x := List.mem_or_eq_of_mem_set h
theorem ids_set {m : List Rc} {k : Nat} {b : Bool} (hk : k < m.length) : (m.set k (ghR (at' m (k : Int)) b)).map (·.id) = m.map (·.id) := by
  rw [List.map_set]
  refine List.ext_getElem (by simp) fun i h1 h2 => ?_
  rw [List.getElem_set]
  split
  · rename_i e; subst e; rw [at_nat _ _ hk, List.getElem_map]; rfl
  · rfl
theorem inv_ad {n : Nat} {m : List Rc} {r : Rc} (h : Inv n m) : Inv n (adL n m r) := by
  unfold adL
  split
  · exact h
  · split
    · exact h
    · rename_i h2
      split
      · exact h
      · refine ⟨by rw [List.length_append]; simp; omega, ?_, fun x hx => ?_⟩
        · have hn := fd_neg (Decidable.not_not.1 h2)
          rw [List.map_append, List.nodup_append]
          refine ⟨h.ids, by simp, fun a ha b hb => ?_⟩
          obtain ⟨y, hy, rfl⟩ := List.mem_map.1 ha
          simp only [List.map_cons, List.map_nil, List.mem_singleton] at hb
          subst hb
          exact of_decide_eq_false (hn y hy)
        · rcases List.mem_append.1 hx with hx | hx
          · exact h.val x hx
          · obtain rfl := List.mem_singleton.1 hx; omega
theorem inv_dr {n : Nat} {m : List Rc} {id : Int} (h : Inv n m) : Inv n (drL m id) := by
  unfold drL
  refine ⟨Nat.le_trans (List.length_eraseIdx_le _ _) h.len, ?_, fun x hx => h.val x (List.mem_of_mem_eraseIdx hx)⟩
  exact List.Nodup.sublist (List.Sublist.map _ (List.eraseIdx_sublist _ _)) h.ids
theorem inv_mk {n : Nat} {m : List Rc} {id : Int} {b : Bool} (h : Inv n m) : Inv n (mkL m id b) := by
  by_cases hn : fdB (idP id) m < 0
  · rw [mk_no hn]; exact h
  · obtain ⟨k, hk, hkl, hkp, hkt⟩ := fd_pos hn
    rw [mk_yes hk]
    refine ⟨by rw [List.length_set]; exact h.len, by rw [ids_set hkl]; exact h.ids, fun x hx => ?_⟩
    rcases mem_set_gh hx with hx | rfl
    · exact h.val x hx
    · exact h.val (at' m (k : Int)) (List.mem_of_getElem? (rat (show (k : Int) < m.length by omega)))
theorem inv_md (n : Nat) (l : List Op) : ∀ i : Nat, (i : Int) ≤ l.length → Inv n (mdI n l i)
  | 0, _ => ⟨by simp [mdI], by simp [mdI], fun r hr => by simp [mdI] at hr⟩
  | i + 1, h => by
    have ih := inv_md n l i (by omega)
    rw [md_s (by omega)]
    unfold stF
    split
    · exact inv_ad ih
    · split
      · exact inv_dr ih
      · exact inv_mk ih
theorem ok_set {m : List Rc} {k : Nat} {b : Bool} (hk : k < m.length) (h : ∀ r ∈ m, okRc r) : ∀ r ∈ m.set k (ghR (at' m (k : Int)) b), okRc r := fun r hr => by
  rcases mem_set_gh hr with hr | rfl
  · exact h r hr
  · exact h (at' m (k : Int)) (List.mem_of_getElem? (rat (show (k : Int) < m.length by omega)))
theorem okc_md (n : Nat) (l : List Op) (hok : ∀ o ∈ l, okRc o.r) : ∀ i : Nat, (i : Int) ≤ l.length → ∀ r ∈ mdI n l i, okRc r
  | 0, _ => fun r hr => by simp [mdI] at hr
  | i + 1, h => by
    have ih := okc_md n l hok i (by omega)
    have ho := hok _ (List.mem_of_getElem? (oat (show (i : Int) < l.length by omega)))
    rw [md_s (by omega)]
    unfold stF
    split
    · unfold adL
      split
      · exact ih
      · split
        · exact ih
        · split
          · exact ih
          · intro r hr
            rcases List.mem_append.1 hr with hr | hr
            · exact ih r hr
            · obtain rfl := List.mem_singleton.1 hr; exact ho
    · split
      · exact fun r hr => ih r (List.mem_of_mem_eraseIdx hr)
      · by_cases hn : fdB (idP (at' l (i : Int)).r.id) (mdI n l i) < 0
        · rw [mk_no hn]; exact ih
        · obtain ⟨k, hk, hkl, hkp, hkt⟩ := fd_pos hn
          rw [mk_yes hk]; exact ok_set hkl ih
theorem ok_md {n : Nat} {l : List Op} (hok : ∀ o ∈ l, okRc o.r) : ∀ r ∈ mdF n l, okR r := fun r hr =>
  ⟨okc_md n l hok l.length (by omega) r hr, by have := (inv_md n l l.length (by omega)).val r hr; omega⟩
/-! marks -/
end Go.Proofs.Ytldlmmpniddbcaa
