/- A logic of values over the model. Part Y: families of boxes. -/
import Derived.Test.YtggeejghchnpaaaKrVmX
set_option linter.unusedVariables false
set_option linter.unusedSimpArgs false
namespace Go.Vm
section
variable {kb : Nat → Nat} {f : Nat → Box}
theorem upds_fam_out : ∀ {l : List Nat} {bx : Nat → Box} {k : Nat}, (∀ i ∈ l, kb i ≠ k) → upds bx (l.map fun i => (kb i, f i)) k = bx k
  | [], bx, k, _ => rfl
  | i :: l, bx, k, h => by
    show upds (upd bx (kb i) (f i)) (l.map fun i => (kb i, f i)) k = bx k
    rw [upds_fam_out fun j hj => h j (List.mem_cons_of_mem _ hj), upd_ne _ _ _ _ fun e => h i (List.mem_cons_self ..) e.symm]
theorem upds_fam_in (hi : ∀ i j, kb i = kb j → i = j) : ∀ {l : List Nat} {bx : Nat → Box} {j : Nat}, j ∈ l → upds bx (l.map fun i => (kb i, f i)) (kb j) = f j
  | i :: l, bx, j, h => by
    show upds (upd bx (kb i) (f i)) (l.map fun i => (kb i, f i)) (kb j) = f j
    by_cases q : j ∈ l
    · exact upds_fam_in hi q
    · rcases List.mem_cons.1 h with rfl | h
      · rw [upds_fam_out fun a ha e => q (by rw [← hi a j e]; exact ha), upd_eq]
      · exact absurd h q
end
/-- A family: the boxes n0, n0 + 1, .. -/
def famL (n0 c : Nat) (f : Nat → List V) : List (Nat × Box) := (List.range c).map fun a => (n0 + a, .cells (f a))
theorem fam_of {bx : Nat → Box} {n0 c : Nat} {f : Nat → List V} (h : PreOK bx (famL n0 c f)) : ∀ a, a < c → bx (n0 + a) = .cells (f a) := fun a ha => h.all (n0 + a, .cells (f a)) (List.mem_map.2 ⟨a, List.mem_range.2 ha, rfl⟩)
theorem fam_ok {bx : Nat → Box} {n0 c : Nat} {f : Nat → List V} (h : ∀ a, a < c → bx (n0 + a) = .cells (f a)) : PreOK bx (famL n0 c f) := PreOK.of fun p hp => by
  obtain ⟨a, ha, rfl⟩ := List.mem_map.1 hp
  exact h a (List.mem_range.1 ha)
theorem fam_lt {bx : Nat → Box} {n n0 c : Nat} {f : Nat → List V} (hd : ∀ k, n ≤ k → bx k = .dead) (h : ∀ a, a < c → bx (n0 + a) = .cells (f a)) : c = 0 ∨ n0 + c ≤ n := by
  rcases Nat.eq_zero_or_pos c with q | q
  · exact .inl q
  · have := lt_cells hd (h (c - 1) (by omega)); omega
theorem upds_app {α : Type} : ∀ (l l' : List (Nat × α)) (f : Nat → α), upds f (l ++ l') = upds (upds f l) l'
  | [], l', f => rfl
  | (k, v) :: l, l', f => upds_app l l' (upd f k v)
theorem upds_famo {bx : Nat → Box} {n0 c k : Nat} {f : Nat → List V} (h : k < n0 ∨ n0 + c ≤ k) : upds bx (famL n0 c f) k = bx k := upds_fam_out (kb := fun a => n0 + a) (f := fun a => .cells (f a)) fun i hi e => by have := List.mem_range.1 hi; omega
theorem upds_fam {bx : Nat → Box} {n0 c a : Nat} {f : Nat → List V} (h : a < c) : upds bx (famL n0 c f) (n0 + a) = .cells (f a) := upds_fam_in (kb := fun a => n0 + a) (f := fun a => .cells (f a)) (fun i j e => by omega) (List.mem_range.2 h)
section
variable {P : Program} {B : Bas} {N : Nat} {Q : Exit → S → Prop} {ops : Array Oper} {L : List Oper} {o : Oper} {l : List (Nat × V)} {n : Nat} {bx : Nat → Box}
theorem UpLt.all {n : Nat} : ∀ {l : List (Nat × Box)}, UpLt n l → ∀ p ∈ l, p.1 < n
  | (k, b) :: l, h, p, hp => by
    rcases List.mem_cons.1 hp with rfl | hp
    · exact h.1
    · exact UpLt.all h.2 p hp
/-- A call that sets some boxes and a family. -/
theorem rl_fam {pre lit : List (Nat × Box)} {d n0 c : Nat} {f : Nat → List V} {v : V} (hg : GuardOK N ops l o) (hd : o.dst = some d) (hN : Nat.blt d N = true) (hs : StepOK P o (mk l) pre (lit ++ famL n0 c f) v) (hp : PreOK bx pre) (hu : UpLt n lit) (hn : c = 0 ∨ n0 + c ≤ n)
    (h : ∀ b', (∀ a, a < c → b' (n0 + a) = .cells (f a)) → (∀ k, k < n0 ∨ n0 + c ≤ k → b' k = upds bx lit k) → RunsL P B N ops L ⟨mk ((d, v) :: l), n, b'⟩ Q) : RunsL P B N ops (o :: L) ⟨mk l, n, bx⟩ Q :=
  rl_any hg (by rw [hd]; exact hN) hs hp (fun p hp => by
    rcases List.mem_append.1 hp with hp | hp
    · exact hu.all p hp
    · obtain ⟨a, ha, rfl⟩ := List.mem_map.1 hp
      have := List.mem_range.1 ha
      show n0 + a < n; omega) (by rw [hd, upds_app]; exact h _ (fun a ha => upds_fam ha) (fun k hk => upds_famo hk))
theorem UpG.app {n : Nat} : ∀ {l l' : List (Nat × Box)}, UpG n l → UpG n l' → UpG n (l ++ l')
  | [], l', h, h' => h'
  | (k, b) :: l, l', h, h' => ⟨h.1, UpG.app h.2 h'⟩
theorem UpG.fam {n n0 : Nat} {f : Nat → List V} : ∀ (l : List Nat), UpG n (l.map fun a => (n0 + a, .cells (f a)))
  | [] => trivial
  | a :: l => ⟨trivial, UpG.fam l⟩
theorem uplt_fam {n n0 c : Nat} {f : Nat → List V} (h : UpLt n (famL n0 c f)) : ∀ a, a < c → n0 + a < n := fun a ha => UpLt.all h (n0 + a, .cells (f a)) (List.mem_map.2 ⟨a, List.mem_range.2 ha, rfl⟩)
theorem fin_fam {m n0 c : Nat} {f : Nat → List V} {bx0 : Nat → Box} {lit : List (Nat × Box)} {r : V} {rs : List ResultVar} {vs : List V} (hv : ResV P ⟨mk l, n, bx⟩ rs vs) (hle : VLe (retV vs) r) (hb : r.bd m) (hf : ∀ a, a < c → bx (n0 + a) = .cells (f a)) (hbx : ∀ k, k < m → k < n0 ∨ n0 + c ≤ k → BoxLe (bx k) (upds bx0 lit k)) (hup : ∀ p ∈ lit, ∀ cs, p.2 = .cells cs → bdL m cs) (hbf : ∀ a, a < c → bdL m (f a)) (hg : UpG m lit) : Fin P m bx0 (lit ++ famL n0 c f) r rs ⟨mk l, n, bx⟩ := by
  refine fin_mkg hv hle hb (fun k hk => ?_) (fun p hp cs hcs => ?_) (hg.app (UpG.fam _))
  · rw [upds_app]
    by_cases q : k < n0 ∨ n0 + c ≤ k
    · rw [upds_famo q]; exact hbx k hk q
    · obtain ⟨a, rfl⟩ : ∃ a, k = n0 + a := ⟨k - n0, by omega⟩
      rw [upds_fam (by omega)]; exact ble (hf a (by omega))
  · rcases List.mem_append.1 hp with hp | hp
    · exact hup p hp cs hcs
    · obtain ⟨a, ha, rfl⟩ := List.mem_map.1 hp
      simp only at hcs; cases hcs
      exact hbf a (List.mem_range.1 ha)
end
section
variable {P : Program} {o : Oper} {t : Nat → V}
theorem step_eq_same {ty ty2 el : TypeId} {x y : Operand} {k j m : Nat} (ho : o.op = .binOp .eql ty x y ty2) (hx : ev t x = .ref k j) (hy : ev t y = .ref k j) (hu : P.underlying ty = some (.pointer el)) (hz : (P.info? el).map (·.size) = some m) : StepOK P o t [] [] (.sc (.bool true)) := by
  refine step_value fun n X ρ hR hop hpre => ?_
  have g1 := hop x (by simp [ho, Op.operands])
  have g2 := hop y (by simp [ho, Op.operands])
  rw [hx] at g1; rw [hy] at g2
  simp only [VRep] at g1 g2
  have heq : ∀ d, (Op.equalIn (d + 1) ty (.pointer (some ⟨X.bl k, j, none⟩)) (.pointer (some ⟨X.bl k, j, none⟩))).run P X.w = .ok true X.w := by
    intro d
    simp only [Op.equalIn, Sem.run_bind, run_under hu, Result.andThen_ok]
    simp only [run_size hz, Result.andThen_ok, sameAddr]
    split <;> simp
  have heq := heq 9999
  refine ⟨.bool true, exec_run (exec_binOp ho) ?_, by simp only [VRep]⟩
  rw [g1.2, g2.2]
  have e1 : (eqGuard .eql ty x y (.pointer (some ⟨X.bl k, j, none⟩)) (.pointer (some ⟨X.bl k, j, none⟩))) = pure () := rfl
  have e2 : (binOp .eql ty (.pointer (some ⟨X.bl k, j, none⟩)) (.pointer (some ⟨X.bl k, j, none⟩))) = (do pure (.bool (← Op.equal ty (.pointer (some ⟨X.bl k, j, none⟩)) (.pointer (some ⟨X.bl k, j, none⟩))))) := rfl
  rw [Sem.run_bind, e1, e2]
  simp only [Result.andThen_ok, Sem.run_bind, Sem.run_pure, Op.equal, Op.maxDepth]
  erw [heq]
  rfl
theorem step_remw {ty ty2 : TypeId} {x y : Operand} {k : IntKind} {a b r : Int} (ho : o.op = .binOp .rem ty x y ty2) (hx : ev t x = .sc (.int k a)) (hy : ev t y = .sc (.int k b)) (hb : b ≠ 0) (h : a.tmod b = r) : StepOK P o t [] [] (.sc (.int k r)) :=
  step_binOp ho hx hy fun w => by
    simp only [eqGuard, binOp_rem, Op.intDiv, hb, if_false, h]; rfl
end
end Go.Vm
