/- A logic of values over the model. Part V: ranges told by lists of entries. -/
import Derived.Test.YtldlmmpniddbcaaKpVmU
import Derived.Test.YtldlmmpniddbcaaKpVmP
set_option linter.unusedVariables false
set_option linter.unusedSimpArgs false
namespace Go.Vm
def AllP {α : Type} (p : α → Prop) : List α → Prop
  | [] => True
  | a :: l => p a ∧ AllP p l
theorem AllP.of {α : Type} {p : α → Prop} : ∀ {l : List α}, (∀ a ∈ l, p a) → AllP p l
  | [], _ => trivial
  | b :: l, h => ⟨h b (List.mem_cons_self ..), AllP.of fun a ha => h a (List.mem_cons_of_mem _ ha)⟩
def lkB : List (Nat × Box) → Nat → Box
  | [], _ => .dead
  | (k, b) :: l, j => if j = k then b else lkB l j
def inK : List Nat → Nat → Bool
  | [], _ => false
  | k :: l, j => Nat.beq j k || inK l j
def eL (El : List (Nat × Box × (Nat → Bool → Box))) : List (Nat × Box) := El.map fun p => (p.1, p.2.1)
def eM (El : List (Nat × Box × (Nat → Bool → Box))) (m : Nat) (b : Bool) : List (Nat × Box) := El.map fun p => (p.1, p.2.2 m b)
/-- An iterator's contract, its own entries told by a list. -/
def DoesL (P : Program) (f : FuncId) (caps : List V) (xs : List (List V)) (El : List (Nat × Box × (Nat → Bool → Box))) : Prop :=
  DoesI P f caps xs (inK (El.map (·.1))) (lkB (eL El)) (fun m b => lkB (eM El m b))
theorem DoesL.le {P : Program} {f : FuncId} {caps caps' : List V} {xs : List (List V)} {El : List (Nat × Box × (Nat → Bool → Box))} (h : DoesL P f caps' xs El) (hl : VLes caps caps') : DoesL P f caps xs El := DoesI.le h hl
theorem AllP.map {α β : Type} {p : β → Prop} {f : α → β} : ∀ {l : List α}, AllP (fun a => p (f a)) l → AllP p (l.map f)
  | [], _ => trivial
  | _ :: _, h => ⟨h.1, AllP.map h.2⟩
theorem AllP.imp {α : Type} {p q : α → Prop} (hi : ∀ a, p a → q a) : ∀ {l : List α}, AllP p l → AllP q l
  | [], _ => trivial
  | _ :: _, h => ⟨hi _ h.1, AllP.imp hi h.2⟩
section
variable {P : Program} {B : Bas} {N n : Nat} {l : List (Nat × V)} {bx : Nat → Box} {Q : Exit → S → Prop} {g : Operand} {ps : Array Tmp} {assign body : Code} {f : FuncId} {caps : List V} {xs : List (List V)} {fnn : Func} {Dl : List (Nat × (Nat → Box))} {El : List (Nat × Box × (Nat → Bool → Box))} {m : Nat} {brk : Bool} {ex : Exit} {gv : V} {kl : Nat}
end
/-! ### Inside an iterator -/
theorem beq_m {m j : Nat} {brk : Bool} (h : (!(brk && Nat.beq (j + 1) m)) = true) (h1 : j < m) : j + 1 ≤ m ∧ (brk = true → j + 1 < m) := by
  refine ⟨h1, fun hb => ?_⟩
  subst hb
  cases hq : Nat.beq (j + 1) m with
  | true => rw [hq] at h; cases h
  | false =>
    have : j + 1 ≠ m := fun e => by rw [e, Nat.beq_refl] at hq; cases hq
    omega
/-- That so many elements were handed over, and that none is asked for in vain. -/
def OkJ (brk : Bool) (m j : Nat) : Prop := j ≤ m ∧ (brk = true → j < m)
theorem OkJ.zero {brk : Bool} {m : Nat} (h : brk = true → 1 ≤ m) : OkJ brk m 0 := ⟨Nat.zero_le _, fun hb => h hb⟩
theorem OkJ.next {brk : Bool} {m j : Nat} (h : (!(brk && Nat.beq (j + 1) m)) = true) (h1 : j < m) : OkJ brk m (j + 1) := beq_m h h1
section
variable {P : Program} {o : Oper} {t : Nat → V}
end
section
variable {P : Program} {B : Bas} {N n : Nat} {bx : Nat → Box} {Q : Exit → S → Prop} {ops : Array Oper} {L : List Oper} {l : List (Nat × V)} {o : Oper}
/-- A slice compared with nil: it may be nil if it is empty. -/
theorem rl_slnil {d : Nat} {ty ty2 el e : TypeId} {x y : Operand} {v : V} {xs : List (List V)} (hg : GuardOK N ops l o) (hd : o.dst = some d) (hN : Nat.blt d N = true) (ho : o.op = .binOp .eql ty x y ty2) (hx : lko l x = some v) (hv : v = .sl e xs ∨ v = .fl e xs) (hy : lko l y = some (.sc (.slice none 0 0))) (hu : P.underlying ty = some (.slice el))
    (h1 : xs = [] → RunsL P B N ops L ⟨mk ((d, .sc (.bool true)) :: l), n, bx⟩ Q) (h0 : RunsL P B N ops L ⟨mk ((d, .sc (.bool false)) :: l), n, bx⟩ Q) : RunsL P B N ops (o :: L) ⟨mk l, n, bx⟩ Q := by
  intro X a hst
  have hxv := ev_rep hst.t x
  rw [show ev (⟨mk l, n, bx⟩ : S).t x = _ from ev_mk hx] at hxv
  have hyv := ev_rep hst.t y
  rw [show ev (⟨mk l, n, bx⟩ : S).t y = _ from ev_mk hy] at hyv
  simp only [VRep] at hyv
  obtain ⟨ad, c, hs1, hs3⟩ : ∃ ad c, a.eval x = .slice ad xs.length c ∧ (xs = [] ∨ ∃ b o, ad = some ⟨b, o, none⟩) := by
    rcases hv with rfl | rfl
    · simp only [VRep] at hxv
      obtain ⟨ad, c, k1, k2, k3⟩ := hxv
      exact ⟨ad, c, k1, k3.imp id fun ⟨b, o, k, _⟩ => ⟨b, o, k⟩⟩
    · simp only [VRep] at hxv
      obtain ⟨ad, k1, k3⟩ := hxv
      exact ⟨ad, _, k1, k3.imp id fun ⟨b, o, k, _⟩ => ⟨b, o, k⟩⟩
  refine wpListIn_step fun K hK => ?_
  rw [if_pos (wanted_of hg hst)]
  have hrun : (o.semAt (fen B.R).round a.eval).run P X.w = .ok (.value (.bool ad.isNone)) X.w := by
    have e0 : o.semAt (fen B.R).round a.eval = execOp a.eval o := by
      cases hr : (fen B.R).round with
      | none => exact Oper.semAt_none _ _
      | some q => exact Oper.semAt_some q _ _ (fun c hc => by rw [ho] at hc; cases hc)
    have heq : ∀ d, (Op.equalIn (d + 1) ty (.slice ad xs.length c) (.slice none 0 0)).run P X.w = .ok ad.isNone X.w := by
      intro d
      simp only [Op.equalIn, Sem.run_bind, run_under hu, Result.andThen_ok]
      cases ad <;> rfl
    have heq := heq 9999
    rw [e0]
    refine exec_run (exec_binOp ho) ?_
    rw [hs1, hyv]
    have e1 : (eqGuard .eql ty x y (.slice ad xs.length c) (.slice none 0 0)) = pure () := rfl
    have e2 : (binOp .eql ty (.slice ad xs.length c) (.slice none 0 0)) = (do pure (.bool (← Op.equal ty (.slice ad xs.length c) (.slice none 0 0)))) := rfl
    rw [Sem.run_bind, e1, e2]
    simp only [Result.andThen_ok, Sem.run_bind, Sem.run_pure, Op.equal, Op.maxDepth]
    erw [heq]
    rfl
  refine ⟨fun _ _ => trivial, ?_⟩
  rw [hrun]
  refine hK _ _ ?_
  rw [hd]
  cases ad with
  | none =>
    have hnil : xs = [] := hs3.resolve_right fun ⟨b, o, h⟩ => by cases h
    exact h1 hnil X _ (hst.put2 (dst := some d) (v := .sc (.bool true)) (u := .bool true) hN hst.rr hst.bx (Ext.refl X) (by simp [VRep]))
  | some ad => exact h0 X _ (hst.put2 (dst := some d) (v := .sc (.bool false)) (u := .bool false) hN hst.rr hst.bx (Ext.refl X) (by simp [VRep]))
end
section
variable {P : Program} {B : Bas} {N n : Nat} {bx : Nat → Box} {Q : Exit → S → Prop} {ops : Array Oper} {L : List Oper} {l : List (Nat × V)}
/-- An empty slice told as one that grows and is written, within a region. -/
theorem rl_growgf {d e k : Nat} (hd : lk l d = some (.fl e [])) (hk : bx k = .dead) (hn : k < n) (hr : RunsL P B N ops L ⟨mk ((d, .gsl k 0 0 0 e) :: l), n, upd bx k (.gcells 0 e [])⟩ Q) : RunsL P B N ops L ⟨mk l, n, bx⟩ Q := by
  intro X a hs
  obtain ⟨t1, t2⟩ := g_bare (v' := 0) (e := e) hs.rr (.inl (by rw [hs.bx]; exact hk)) hn
  refine hr { X with bx := upd X.bx k (.gcells 0 e []) } a ⟨t1, by show upd X.bx k _ = upd bx k _; rw [show X.bx = bx from hs.bx], fun i => ?_, hs.N, hs.defers.mono t2 rfl, hs.ext.trans t2⟩
  by_cases hi : i = d
  · subst hi
    have h1 := hs.t i
    simp only at h1
    rw [lk_mk hd] at h1
    simp only [mk, upd_eq]
    simp only [VRep] at h1 ⊢
    obtain ⟨ad, h1, _⟩ := h1
    exact ⟨ad, 0, 0, e, [], h1, Nat.le_refl _, upd_eq _ _ _, Nat.le_refl _, fun _ => .inl rfl⟩
  · simp only [mk, upd_ne _ _ _ _ hi]
    exact VRep.mono t2 _ _ (hs.t i)
end
end Go.Vm
