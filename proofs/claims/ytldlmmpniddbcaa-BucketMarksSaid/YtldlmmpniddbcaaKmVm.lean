/- Walks by the logic of values. -/
import Derived.Test.YtldlmmpniddbcaaKmVa
import Derived.Test.YtldlmmpniddbcaaKmVc
import Derived.Test.YtldlmmpniddbcaaKmVo
import Derived.Test.YtldlmmpniddbcaaKmVg
import Derived.Test.YtldlmmpniddbcaaKmVk
namespace Go.Proofs.Ytldlmmpniddbcaa
open Go.Vm
set_option linter.unusedVariables false
set_option linter.unusedSimpArgs false
attribute [local irreducible] Go.Vm.beB Go.Vm.fieldB
structure Inv (n : Nat) (m : List Rc) : Prop where
  len : m.length ≤ 5 * n
  ids : (m.map (·.id)).Nodup
  val : ∀ r ∈ m, r.val.size ≤ 15
theorem mem_set_gh {m : List Rc} {k : Nat} {x r : Rc} (h : r ∈ m.set k x) : r ∈ m ∨ r = x := List.mem_or_eq_of_mem_set h
theorem ids_set {m : List Rc} {k : Nat} {b : Bool} (hk : k < m.length) : (m.set k (ghR (at' m (k : Int)) b)).map (·.id) = m.map (·.id) := by
  rw [List.map_set]
  refine List.ext_getElem (by simp) fun i h1 h2 => ?_
  rw [List.getElem_set]
  split
  · rename_i e; subst e; rw [at_nat _ _ hk, List.getElem_map]; rfl
  · rfl
theorem inv_ad {n : Nat} {m : List Rc} {r : Rc} (h : Inv n m) : Inv n (adL n m r) := by
  unfold adL
  split
  · exact h
  · split
    · exact h
    · rename_i h2
      split
      · exact h
      · refine ⟨by rw [List.length_append]; simp; omega, ?_, fun x hx => ?_⟩
        · have hn := fd_neg (Decidable.not_not.1 h2)
          rw [List.map_append, List.nodup_append]
          refine ⟨h.ids, by simp, fun a ha b hb => ?_⟩
          obtain ⟨y, hy, rfl⟩ := List.mem_map.1 ha
          simp only [List.map_cons, List.map_nil, List.mem_singleton] at hb
          subst hb
          exact of_decide_eq_false (hn y hy)
        · rcases List.mem_append.1 hx with hx | hx
          · exact h.val x hx
          · obtain rfl := List.mem_singleton.1 hx; omega
theorem inv_dr {n : Nat} {m : List Rc} {id : Int} (h : Inv n m) : Inv n (drL m id) := by
  unfold drL
  refine ⟨Nat.le_trans (List.length_eraseIdx_le _ _) h.len, ?_, fun x hx => h.val x (List.mem_of_mem_eraseIdx hx)⟩
  exact List.Nodup.sublist (List.Sublist.map _ (List.eraseIdx_sublist _ _)) h.ids
theorem inv_mk {n : Nat} {m : List Rc} {id : Int} {b : Bool} (h : Inv n m) : Inv n (mkL m id b) := by
  by_cases hn : fdB (idP id) m < 0
  · rw [mk_no hn]; exact h
  · obtain ⟨k, hk, hkl, hkp, hkt⟩ := fd_pos hn
    rw [mk_yes hk]
    refine ⟨by rw [List.length_set]; exact h.len, by rw [ids_set hkl]; exact h.ids, fun x hx => ?_⟩
    rcases mem_set_gh hx with hx | rfl
    · exact h.val x hx
    · exact h.val (at' m (k : Int)) (List.mem_of_getElem? (rat (show (k : Int) < m.length by omega)))
theorem inv_md (n : Nat) (l : List Op) : ∀ i : Nat, (i : Int) ≤ l.length → Inv n (mdI n l i)
  | 0, _ => ⟨by simp [mdI], by simp [mdI], fun r hr => by simp [mdI] at hr⟩
  | i + 1, h => by
    have ih := inv_md n l i (by omega)
    rw [md_s (by omega)]
    unfold stF
    split
    · exact inv_ad ih
    · split
      · exact inv_dr ih
      · exact inv_mk ih
/-! marks -/
theorem at_set {m : List Rc} {k : Nat} {x : Rc} (hk : k < m.length) : at' (m.set k x) (k : Int) = x := by
  rw [at_nat _ _ (by rw [List.length_set]; exact hk), List.getElem_set_self]
theorem er_split {m : List Rc} {k : Nat} (hk : k < m.length) : m = m.take k ++ at' m (k : Int) :: m.drop (k + 1) := by
  conv => lhs; rw [← List.take_append_drop k m]
  rw [List.drop_eq_getElem_cons hk, at_nat _ _ hk]
theorem mark_a {n k : Nat} {m : List Rc} {id : Int} (hi : Inv n m) (hk : (k : Int) = fdB (idP id) m) (hkl : k < m.length) (hkp : idP id (at' m (k : Int)) = true) (hkt : ∀ r ∈ m.take k, idP id r = false) (b : Bool) : fdB (idP id) (mkL m id b) = k := by
  rw [mk_yes hk]
  refine fd_at (fun r hr => hkt r ?_) (by rw [List.length_set]; omega) (by rw [at_set hkl]; exact hkp)
  rw [List.take_set, List.set_eq_of_length_le (by rw [List.length_take]; omega)] at hr
  exact hr
theorem mark_b {n k : Nat} {m : List Rc} {id : Int} (hi : Inv n m) (hk : (k : Int) = fdB (idP id) m) (hkl : k < m.length) (hkp : idP id (at' m (k : Int)) = true) (hkt : ∀ r ∈ m.take k, idP id r = false) (key : Int) : ¬ fdB (lvP key) (mkL m id true) = k := by
  rw [mk_yes hk]
  intro h
  rcases fd_cases (lvP key) (m.set k (ghR (at' m (k : Int)) true)) with ⟨h1, _⟩ | ⟨i, h1, _, h2, _⟩
  · omega
  · obtain rfl : i = k := by omega
    rw [at_set hkl] at h2
    simp [lvP, ghR] at h2
theorem mark_c' {n k : Nat} {m : List Rc} {id : Int} (hi : Inv n m) (hk : (k : Int) = fdB (idP id) m) (hkl : k < m.length) (hkp : idP id (at' m (k : Int)) = true) (hkt : ∀ r ∈ m.take k, idP id r = false) : mkL (mkL m id true) id (at' m (k : Int)).gh = m := by
  have ha := mark_a hi hk hkl hkp hkt true
  rw [mk_yes ha.symm, mk_yes hk, at_set hkl, List.set_set]
  have : ghR (ghR (at' m (k : Int)) true) (at' m (k : Int)).gh = m[k] := by rw [at_nat _ _ hkl]; rfl
  rw [this, List.set_getElem_self]
theorem drop_b {n k : Nat} {m : List Rc} {id : Int} (hi : Inv n m) (hk : (k : Int) = fdB (idP id) m) (hkl : k < m.length) (hkp : idP id (at' m (k : Int)) = true) (hkt : ∀ r ∈ m.take k, idP id r = false) : ∀ r ∈ drL m id, idP id r = false := by
  rw [dr_yes hk, List.eraseIdx_eq_take_drop_succ]
  have hn := hi.ids
  rw [er_split hkl, List.map_append, List.map_cons, List.nodup_append, List.nodup_cons] at hn
  have hid : (at' m (k : Int)).id = id := of_decide_eq_true hkp
  intro r hr
  refine decide_eq_false fun q => ?_
  rcases List.mem_append.1 hr with hr | hr
  · exact hn.2.2 r.id (List.mem_map.2 ⟨r, hr, rfl⟩) _ (List.mem_cons_self ..) (q.trans hid.symm)
  · exact hn.2.1.1 (by rw [hid, ← q]; exact List.mem_map.2 ⟨r, hr, rfl⟩)
theorem drop_c' {n k : Nat} {m : List Rc} {id : Int} (hi : Inv n m) (hk : (k : Int) = fdB (idP id) m) (hkl : k < m.length) (hkp : idP id (at' m (k : Int)) = true) (hkt : ∀ r ∈ m.take k, idP id r = false) : (drL m id).length = m.length - 1 := by rw [dr_yes hk, List.length_eraseIdx_of_lt hkl]
theorem drop_d {n k : Nat} {m : List Rc} {id : Int} (hi : Inv n m) (hk : (k : Int) = fdB (idP id) m) (hkl : k < m.length) (hkp : idP id (at' m (k : Int)) = true) (hkt : ∀ r ∈ m.take k, idP id r = false) : adL n (drL m id) (at' m (k : Int)) = drL m id ++ [at' m (k : Int)] ∧ adC n (drL m id) (at' m (k : Int)) = 0 := by
  have h1 := drop_c' hi hk hkl hkp hkt
  have h2 := hi.len
  have h3 := hi.val _ (List.mem_of_getElem? (rat (show (k : Int) < m.length by omega)))
  have hid : (at' m (k : Int)).id = id := of_decide_eq_true hkp
  exact ad4 (by omega) (by rw [hid, fd_no (drop_b hi hk hkl hkp hkt)]; omega) (by omega)
theorem drop_e {n k : Nat} {m : List Rc} {id : Int} (hi : Inv n m) (hk : (k : Int) = fdB (idP id) m) (hkl : k < m.length) (hkp : idP id (at' m (k : Int)) = true) (hkt : ∀ r ∈ m.take k, idP id r = false) : fdB (idP id) (drL m id ++ [at' m (k : Int)]) = (m.length : Int) - 1 := by
  have h1 := drop_c' hi hk hkl hkp hkt
  have h := fd_at (p := idP id) (l := drL m id ++ [at' m (k : Int)]) (i := (drL m id).length) (by rw [List.take_left']; exact drop_b hi hk hkl hkp hkt; rfl) (by rw [List.length_append]; simp; omega) (by rw [at_nat _ _ (by simp), List.getElem_append_right (Nat.le_refl _)]; simpa using hkp)
  rw [h]; omega
theorem drop_f {n k : Nat} {m : List Rc} {id : Int} (hi : Inv n m) (hk : (k : Int) = fdB (idP id) m) (hkl : k < m.length) (hkp : idP id (at' m (k : Int)) = true) (hkt : ∀ r ∈ m.take k, idP id r = false) {j : Nat} (hj : (j : Int) < (m.length : Int) - 1) : at' (drL m id ++ [at' m (k : Int)]) (j : Int) = if j ≥ k then at' m ((j : Int) + 1) else at' m (j : Int) := by
  have h1 := drop_c' hi hk hkl hkp hkt
  rw [at_nat _ _ (by rw [List.length_append]; omega), List.getElem_append_left (by omega)]
  simp only [dr_yes hk]
  rw [List.getElem_eraseIdx]
  by_cases hc : j < k
  · rw [if_neg (by omega), dif_pos hc, at_nat _ _ (by omega)]
  · rw [if_pos (by omega), dif_neg hc, show (j : Int) + 1 = ((j + 1 : Nat) : Int) by omega, at_nat _ _ (by omega)]
end Go.Proofs.Ytldlmmpniddbcaa
