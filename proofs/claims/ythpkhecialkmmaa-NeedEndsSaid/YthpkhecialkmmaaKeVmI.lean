/- A logic of values over the model. Part I: states told by lists; the rules as a walk uses them. -/
import Derived.Test.YthpkhecialkmmaaKeVmH
set_option linter.unusedVariables false
set_option linter.unusedSimpArgs false
namespace Go.Vm
/-- The temporaries of which something is known, the last written ahead. -/
def mk : List (Nat × V) → Nat → V
  | [] => fun _ => .junk
  | (d, v) :: l => upd (mk l) d v
def lk : List (Nat × V) → Nat → Option V
  | [], _ => none
  | (d, v) :: l, i => match Nat.beq d i with
    | true => some v
    | false => lk l i
def lko (l : List (Nat × V)) : Operand → Option V
  | .tmp i => lk l i
  | .const v => some (.sc v)
  | .func f => some (.sc (.func (.func f) #[] #[]))
  | .global g => some (.sc (.pointer (some ⟨g, 0, none⟩)))
def lks (l : List (Nat × V)) : List Operand → Option (List V)
  | [] => some []
  | x :: xs => match lko l x with
    | some v => match lks l xs with
      | some vs => some (v :: vs)
      | none => none
    | none => none
theorem lk_mk : ∀ {l : List (Nat × V)} {i : Nat} {v : V}, lk l i = some v → mk l i = v
  | [], i, v, h => by simp [lk] at h
  | (d, u) :: l, i, v, h => by
    simp only [lk] at h
    split at h
    · rename_i hd
      have : d = i := Nat.eq_of_beq_eq_true hd
      subst this
      simp only [mk, upd_eq]
      simpa using h
    · rename_i hd
      have : i ≠ d := fun e => by subst e; rw [show Nat.beq i i = true from Nat.beq_refl i] at hd; cases hd
      simp only [mk, upd_ne _ _ _ _ this]
      exact lk_mk h
theorem ev_mk {l : List (Nat × V)} {x : Operand} {v : V} (h : lko l x = some v) : ev (mk l) x = v := by
  cases x with
  | tmp i => exact lk_mk h
  | const u => simpa [lko, ev] using h
  | func f => simpa [lko, ev] using h
  | global g => simpa [lko, ev] using h
theorem evs_mk {l : List (Nat × V)} : ∀ {xs : List Operand} {vs : List V}, lks l xs = some vs → xs.map (ev (mk l)) = vs
  | [], vs, h => by simp [lks] at h; subst h; rfl
  | x :: xs, vs, h => by
    simp only [lks] at h
    cases h1 : lko l x with
    | none => simp [h1] at h
    | some v =>
      cases h2 : lks l xs with
      | none => simp [h1, h2] at h
      | some vs' =>
        simp [h1, h2] at h
        subst h
        simp [ev_mk h1, evs_mk h2]
/-- What is asked of the entries. -/
def PreOK (bx : Nat → Box) : List (Nat × Box) → Prop
  | [] => True
  | (k, b) :: l => bx k = b ∧ PreOK bx l
def UpLt (n : Nat) : List (Nat × Box) → Prop
  | [] => True
  | (k, _) :: l => k < n ∧ UpLt n l
theorem UpLt.of {n : Nat} : ∀ {l : List (Nat × Box)}, (∀ p ∈ l, p.1 < n) → UpLt n l
  | [], h => trivial
  | (k, b) :: l, h => ⟨h (k, b) (List.mem_cons_self ..), UpLt.of fun p hp => h p (List.mem_cons_of_mem _ hp)⟩
theorem PreOK.all {bx : Nat → Box} : ∀ {l : List (Nat × Box)}, PreOK bx l → ∀ p ∈ l, bx p.1 = p.2
  | [], h, p, hp => by cases hp
  | (k, b) :: l, h, p, hp => by
    rcases List.mem_cons.1 hp with rfl | hp
    · exact h.1
    · exact PreOK.all h.2 p hp
section
variable {P : Program} {B : Bas} {N : Nat} {Q : Exit → S → Prop} {ops : Array Oper} {L : List Oper} {o : Oper} {l : List (Nat × V)} {n : Nat} {bx : Nat → Box}
/-- May the operation run: it has no guard, or its guard says so. -/
def GuardOK (N : Nat) (ops : Array Oper) (l : List (Nat × V)) (o : Oper) : Prop :=
  o.guard = none ∨ ∃ j w g d b, o.guard = some (j, w) ∧ ops[j]? = some g ∧ g.dst = some d ∧ lk l d = some (.sc (.bool b)) ∧ Nat.blt d N = true ∧ (b == w) = true
theorem gn (h : o.guard = none) : GuardOK N ops l o := .inl h
theorem gy {j : Nat} {w : Bool} {g : Oper} {d : Nat} {b : Bool} (h1 : o.guard = some (j, w)) (h2 : ops[j]? = some g) (h3 : g.dst = some d) (h4 : lk l d = some (.sc (.bool b))) (h5 : Nat.blt d N = true) (h6 : (b == w) = true) : GuardOK N ops l o := .inr ⟨j, w, g, d, b, h1, h2, h3, h4, h5, h6⟩
theorem rl_any {pre up : List (Nat × Box)} {v : V} (hg : GuardOK N ops l o) (hN : okDst N o.dst = true) (hs : StepOK P o (mk l) pre up v) (hp : PreOK bx pre) (hu : ∀ p ∈ up, p.1 < n) (h : RunsL P B N ops L ⟨putS (mk l) o.dst v, n, upds bx up⟩ Q) : RunsL P B N ops (o :: L) ⟨mk l, n, bx⟩ Q := by
  rcases hg with hg | ⟨j, w, g, d, b, h1, h2, h3, h4, h5, h6⟩
  · exact runsL_cons hg hs hp.all hu hN h
  · exact runsL_guard h1 h2 h3 (lk_mk h4) h5 h6 hs hp.all hu hN h
/-- An operation that sets no entry. -/
theorem rl0 {pre : List (Nat × Box)} {d : Nat} {v : V} (hg : GuardOK N ops l o) (hd : o.dst = some d) (hN : Nat.blt d N = true) (hs : StepOK P o (mk l) pre [] v) (hp : PreOK bx pre) (h : RunsL P B N ops L ⟨mk ((d, v) :: l), n, bx⟩ Q) : RunsL P B N ops (o :: L) ⟨mk l, n, bx⟩ Q :=
  rl_any hg (by rw [hd]; exact hN) hs hp (by simp) (by rw [hd]; exact h)
/-- One that sets one entry. -/
theorem rl1 {pre : List (Nat × Box)} {d k : Nat} {b : Box} {v : V} (hg : GuardOK N ops l o) (hd : o.dst = some d) (hN : Nat.blt d N = true) (hs : StepOK P o (mk l) pre [(k, b)] v) (hp : PreOK bx pre) (hk : k < n) (h : RunsL P B N ops L ⟨mk ((d, v) :: l), n, upd bx k b⟩ Q) : RunsL P B N ops (o :: L) ⟨mk l, n, bx⟩ Q :=
  rl_any hg (by rw [hd]; exact hN) hs hp (by simpa using hk) (by rw [hd]; exact h)
theorem rl2 {pre : List (Nat × Box)} {d k k' : Nat} {b b' : Box} {v : V} (hg : GuardOK N ops l o) (hd : o.dst = some d) (hN : Nat.blt d N = true) (hs : StepOK P o (mk l) pre [(k, b), (k', b')] v) (hp : PreOK bx pre) (hk : k < n) (hk' : k' < n) (h : RunsL P B N ops L ⟨mk ((d, v) :: l), n, upd (upd bx k b) k' b'⟩ Q) : RunsL P B N ops (o :: L) ⟨mk l, n, bx⟩ Q :=
  rl_any hg (by rw [hd]; exact hN) hs hp (by simp; exact ⟨hk, hk'⟩) (by rw [hd]; exact h)
/-- A store. -/
theorem rls {pre : List (Nat × Box)} {k : Nat} {b : Box} {v : V} (hg : GuardOK N ops l o) (hd : o.dst = none) (hs : StepOK P o (mk l) pre [(k, b)] v) (hp : PreOK bx pre) (hk : k < n) (h : RunsL P B N ops L ⟨mk l, n, upd bx k b⟩ Q) : RunsL P B N ops (o :: L) ⟨mk l, n, bx⟩ Q :=
  rl_any hg (by rw [hd]; rfl) hs hp (by simpa using hk) (by rw [hd]; exact h)
theorem ngb {v : V} {b w : Bool} (h : v = .sc (.bool b)) (h2 : (b == w) = false) : NoGuard v w := .inl ⟨b, h, h2⟩
/-- A guarded operation that does not run. -/
theorem rlk {j : Nat} {w : Bool} {g : Oper} {d : Nat} {v : V} (h1 : o.guard = some (j, w)) (h2 : ops[j]? = some g) (h3 : g.dst = some d) (h4 : lk l d = some v) (h5 : Nat.blt d N = true) (h6 : NoGuard v w) {d' : Nat} (hd : o.dst = some d') (hN : Nat.blt d' N = true)
    (h : RunsL P B N ops L ⟨mk ((d', .sc undef) :: l), n, bx⟩ Q) : RunsL P B N ops (o :: L) ⟨mk l, n, bx⟩ Q :=
  runsL_skip h1 h2 h3 (by show NoGuard (mk l d) w; rw [lk_mk h4]; exact h6) h5 (by rw [hd]; exact hN) (by rw [hd]; exact h)
theorem RunsL.le {l' : List (Nat × V)} (hle : ∀ i, VLe (mk l i) (mk l' i)) (h : RunsL P B N ops L ⟨mk l', n, bx⟩ Q) : RunsL P B N ops L ⟨mk l, n, bx⟩ Q :=
  fun X a hs => h X a ⟨hs.rr, hs.bx, fun i => hle i X _ (hs.t i), hs.N, hs.defers, hs.ext⟩
/-- A truth that is told in two ways. -/
theorem rl_bool {d : Nat} {b : Bool} (hb : lk l d = some (.sc (.bool b))) (h1 : b = true → RunsL P B N ops L ⟨mk ((d, .sc (.bool true)) :: l), n, bx⟩ Q) (h2 : b = false → RunsL P B N ops L ⟨mk ((d, .sc (.bool false)) :: l), n, bx⟩ Q) : RunsL P B N ops L ⟨mk l, n, bx⟩ Q := by
  have hm := lk_mk hb
  have key : ∀ c, b = c → ∀ i, VLe (mk l i) (mk ((d, .sc (.bool c)) :: l) i) := by
    intro c hc i
    by_cases hi : i = d
    · subst hi; simp only [mk, upd_eq]; rw [hm, hc]; exact VLe.refl _
    · simp only [mk, upd_ne _ _ _ _ hi]; exact VLe.refl _
  cases b with
  | true => exact RunsL.le (key true rfl) (h1 rfl)
  | false => exact RunsL.le (key false rfl) (h2 rfl)
/-! Comparisons, told in two ways. -/
theorem rl_cmp {op : BinOp} {ty ty2 : TypeId} {x y : Operand} {d : Nat} {a b : Value} {c : Bool} (hg : GuardOK N ops l o) (hd : o.dst = some d) (hN : Nat.blt d N = true) (ho : o.op = .binOp op ty x y ty2) (hx : lko l x = some (.sc a)) (hy : lko l y = some (.sc b))
    (hr : ∀ w, (do eqGuard op ty x y a b; binOp op ty a b : Sem Value).run P w = .ok (.bool c) w) (h1 : c = true → RunsL P B N ops L ⟨mk ((d, .sc (.bool true)) :: l), n, bx⟩ Q) (h2 : c = false → RunsL P B N ops L ⟨mk ((d, .sc (.bool false)) :: l), n, bx⟩ Q) : RunsL P B N ops (o :: L) ⟨mk l, n, bx⟩ Q := by
  have hs : StepOK P o (mk l) [] [] (.sc (.bool c)) := step_binOp ho (ev_mk hx) (ev_mk hy) hr
  cases c with
  | true => exact rl0 hg hd hN hs trivial (h1 rfl)
  | false => exact rl0 hg hd hN hs trivial (h2 rfl)
section
variable {ty ty2 : TypeId} {x y : Operand} {d : Nat} {k : IntKind} {a b : Int}
theorem run_lss (w : World) : (do eqGuard .lss ty x y (.int k a) (.int k b); binOp .lss ty (.int k a) (.int k b) : Sem Value).run P w = .ok (.bool (decide (a < b))) w := by cases k <;> rfl
theorem run_leq (w : World) : (do eqGuard .leq ty x y (.int k a) (.int k b); binOp .leq ty (.int k a) (.int k b) : Sem Value).run P w = .ok (.bool (decide (a ≤ b))) w := by cases k <;> rfl
theorem run_gtr (w : World) : (do eqGuard .gtr ty x y (.int k a) (.int k b); binOp .gtr ty (.int k a) (.int k b) : Sem Value).run P w = .ok (.bool (decide (a > b))) w := by cases k <;> rfl
theorem run_geq (w : World) : (do eqGuard .geq ty x y (.int k a) (.int k b); binOp .geq ty (.int k a) (.int k b) : Sem Value).run P w = .ok (.bool (decide (a ≥ b))) w := by cases k <;> rfl
theorem run_eql (w : World) : (do eqGuard .eql ty x y (.int k a) (.int k b); binOp .eql ty (.int k a) (.int k b) : Sem Value).run P w = .ok (.bool (a == b)) w := by cases k <;> rfl
theorem rl_lss (hg : GuardOK N ops l o) (hd : o.dst = some d) (hN : Nat.blt d N = true) (ho : o.op = .binOp .lss ty x y ty2) (hx : lko l x = some (.sc (.int k a))) (hy : lko l y = some (.sc (.int k b)))
    (h1 : a < b → RunsL P B N ops L ⟨mk ((d, .sc (.bool true)) :: l), n, bx⟩ Q) (h2 : ¬ a < b → RunsL P B N ops L ⟨mk ((d, .sc (.bool false)) :: l), n, bx⟩ Q) : RunsL P B N ops (o :: L) ⟨mk l, n, bx⟩ Q :=
  rl_cmp hg hd hN ho hx hy run_lss (fun h => h1 (of_decide_eq_true h)) (fun h => h2 (of_decide_eq_false h))
theorem rl_leq (hg : GuardOK N ops l o) (hd : o.dst = some d) (hN : Nat.blt d N = true) (ho : o.op = .binOp .leq ty x y ty2) (hx : lko l x = some (.sc (.int k a))) (hy : lko l y = some (.sc (.int k b)))
    (h1 : a ≤ b → RunsL P B N ops L ⟨mk ((d, .sc (.bool true)) :: l), n, bx⟩ Q) (h2 : ¬ a ≤ b → RunsL P B N ops L ⟨mk ((d, .sc (.bool false)) :: l), n, bx⟩ Q) : RunsL P B N ops (o :: L) ⟨mk l, n, bx⟩ Q :=
  rl_cmp hg hd hN ho hx hy run_leq (fun h => h1 (of_decide_eq_true h)) (fun h => h2 (of_decide_eq_false h))
theorem rl_gtr (hg : GuardOK N ops l o) (hd : o.dst = some d) (hN : Nat.blt d N = true) (ho : o.op = .binOp .gtr ty x y ty2) (hx : lko l x = some (.sc (.int k a))) (hy : lko l y = some (.sc (.int k b)))
    (h1 : a > b → RunsL P B N ops L ⟨mk ((d, .sc (.bool true)) :: l), n, bx⟩ Q) (h2 : ¬ a > b → RunsL P B N ops L ⟨mk ((d, .sc (.bool false)) :: l), n, bx⟩ Q) : RunsL P B N ops (o :: L) ⟨mk l, n, bx⟩ Q :=
  rl_cmp hg hd hN ho hx hy run_gtr (fun h => h1 (of_decide_eq_true h)) (fun h => h2 (of_decide_eq_false h))
theorem rl_geq (hg : GuardOK N ops l o) (hd : o.dst = some d) (hN : Nat.blt d N = true) (ho : o.op = .binOp .geq ty x y ty2) (hx : lko l x = some (.sc (.int k a))) (hy : lko l y = some (.sc (.int k b)))
    (h1 : a ≥ b → RunsL P B N ops L ⟨mk ((d, .sc (.bool true)) :: l), n, bx⟩ Q) (h2 : ¬ a ≥ b → RunsL P B N ops L ⟨mk ((d, .sc (.bool false)) :: l), n, bx⟩ Q) : RunsL P B N ops (o :: L) ⟨mk l, n, bx⟩ Q :=
  rl_cmp hg hd hN ho hx hy run_geq (fun h => h1 (of_decide_eq_true h)) (fun h => h2 (of_decide_eq_false h))
theorem rl_eql (hg : GuardOK N ops l o) (hd : o.dst = some d) (hN : Nat.blt d N = true) (ho : o.op = .binOp .eql ty x y ty2) (hx : lko l x = some (.sc (.int k a))) (hy : lko l y = some (.sc (.int k b)))
    (h1 : a = b → RunsL P B N ops L ⟨mk ((d, .sc (.bool true)) :: l), n, bx⟩ Q) (h2 : ¬ a = b → RunsL P B N ops L ⟨mk ((d, .sc (.bool false)) :: l), n, bx⟩ Q) : RunsL P B N ops (o :: L) ⟨mk l, n, bx⟩ Q :=
  rl_cmp hg hd hN ho hx hy run_eql (fun h => h1 (by simpa using h)) (fun h => h2 (by simpa using h))
/-- Sums and their kin, that stay in their kind. -/
theorem step_add {o : Oper} {t : Nat → V} (ho : o.op = .binOp .add ty x y ty2) (hx : ev t x = .sc (.int k a)) (hy : ev t y = .sc (.int k b)) (h : k.wrap (a + b) = a + b) : StepOK P o t [] [] (.sc (.int k (a + b))) :=
  step_binOp ho hx hy (fun w => by rw [show (do eqGuard .add ty x y (.int k a) (.int k b); binOp .add ty (.int k a) (.int k b) : Sem Value).run P w = .ok (.int k (k.wrap (a + b))) w from by cases k <;> rfl, h])
theorem step_sub {o : Oper} {t : Nat → V} (ho : o.op = .binOp .sub ty x y ty2) (hx : ev t x = .sc (.int k a)) (hy : ev t y = .sc (.int k b)) (h : k.wrap (a - b) = a - b) : StepOK P o t [] [] (.sc (.int k (a - b))) :=
  step_binOp ho hx hy (fun w => by rw [show (do eqGuard .sub ty x y (.int k a) (.int k b); binOp .sub ty (.int k a) (.int k b) : Sem Value).run P w = .ok (.int k (k.wrap (a - b))) w from by cases k <;> rfl, h])
theorem step_mul {o : Oper} {t : Nat → V} (ho : o.op = .binOp .mul ty x y ty2) (hx : ev t x = .sc (.int k a)) (hy : ev t y = .sc (.int k b)) (h : k.wrap (a * b) = a * b) : StepOK P o t [] [] (.sc (.int k (a * b))) :=
  step_binOp ho hx hy (fun w => by rw [show (do eqGuard .mul ty x y (.int k a) (.int k b); binOp .mul ty (.int k a) (.int k b) : Sem Value).run P w = .ok (.int k (k.wrap (a * b))) w from by cases k <;> rfl, h])
end
theorem w64 {a : Int} (h : -9223372036854775808 ≤ a ∧ a ≤ 9223372036854775807) : IntKind.i64.wrap a = a := by
  unfold IntKind.wrap; simp [IntKind.signed, IntKind.bits]; omega
theorem wu64 {a : Int} (h : 0 ≤ a ∧ a ≤ 18446744073709551615) : IntKind.u64.wrap a = a := by
  unfold IntKind.wrap; simp [IntKind.signed, IntKind.bits]; omega
theorem wu32 {a : Int} (h : 0 ≤ a ∧ a ≤ 4294967295) : IntKind.u32.wrap a = a := by
  unfold IntKind.wrap; simp [IntKind.signed, IntKind.bits]; omega
/-! Calls, whose arguments may be told less of. -/
theorem Does.le {f : FuncId} {vs vs' : List V} {pre up : List (Nat × Box)} {r : V} (h : Does P f vs' pre up r) (hl : VLes vs vs') : Does P f vs pre up r :=
  fun n X args hR ha hp hu => h n X args hR (hl.row ha) hp hu
theorem VLe.own_sl (e : Nat) (xs : List (List V)) (k : Nat) : VLe (.own e xs k) (.sl e xs) := by
  intro X u h
  simp only [VRep] at h ⊢
  obtain ⟨a, c, h1, h2, h3, _⟩ := h
  exact ⟨a, c, h1, h2, h3⟩
theorem VLe.fl_sl (e : Nat) (xs : List (List V)) : VLe (.fl e xs) (.sl e xs) := by
  intro X u h
  simp only [VRep] at h ⊢
  obtain ⟨a, h1, h3⟩ := h
  exact ⟨a, _, h1, Nat.le_refl _, h3⟩
theorem VLe.nil_fl (e : Nat) : VLe (.sc (.slice none 0 0)) (.fl e []) := by
  intro X u h
  simp only [VRep] at h ⊢
  exact ⟨none, h, .inl trivial⟩
theorem VLe.nil_sl (e : Nat) : VLe (.sc (.slice none 0 0)) (.sl e []) := fun X u h => VLe.fl_sl e [] X u (VLe.nil_fl e X u h)
theorem VLe.agg {cs cs' : List V} (h : VLes cs cs') : VLe (.agg cs) (.agg cs') := by
  intro X u hv
  simp only [VRep] at hv ⊢
  obtain ⟨us, h1, h2, h3⟩ := hv
  exact ⟨us, h1, h.row h2, h3⟩
theorem VLe.tup {cs cs' : List V} (h : VLes cs cs') : VLe (.tup cs) (.tup cs') := by
  intro X u hv
  simp only [VRep] at hv ⊢
  obtain ⟨us, h1, h2⟩ := hv
  exact ⟨us, h1, h.row h2⟩
theorem VLes.refl : ∀ vs : List V, VLes vs vs
  | [] => .nil
  | v :: vs => .cons (VLe.refl v) (VLes.refl vs)
/-- A call by name. -/
theorem step_callc {f : FuncId} {fn : Func} {xs : Array Operand} {tys : Array TypeId} {vs vs' : List V} {pre up : List (Nat × Box)} {r : V} (ho : o.op = .call { callee := .value (.func f), args := xs, argTypes := tys }) (hf : P.funcs[f]? = some fn) (hvs : lks l xs.toList = some vs)
    (hname : (fn.name == "runtime.NumGoroutine") = false) (hb : fn.body.isSome = true) (h : Does P f vs' pre up r) (hl : VLes vs vs') : StepOK P o (mk l) pre up r :=
  step_call ho (evs_mk hvs) hf hname hb (h.le hl)
/-! Loops -/
/-- What is kept of a state's temporaries. -/
def LeL (l : List (Nat × V)) : List (Nat × V) → Prop
  | [] => True
  | (d, v') :: l' => (∃ v, lk l d = some v ∧ VLe v v') ∧ LeL l l'
theorem LeL.mk : ∀ {l' : List (Nat × V)}, LeL l l' → ∀ i, VLe (mk l i) (Vm.mk l' i)
  | [], h, i => VLe.junk _
  | (d, v') :: l', h, i => by
    obtain ⟨⟨v, h1, h2⟩, h3⟩ := h
    by_cases hi : i = d
    · subst hi; simp only [Vm.mk, upd_eq]; rw [lk_mk h1]; exact h2
    · show VLe _ (upd (Vm.mk l') d v' i); rw [upd_ne _ _ _ _ hi]; exact LeL.mk h3 i
theorem sle {l' : List (Nat × V)} {n' : Nat} (h : LeL l l') (hn : n ≤ n') : SLe ⟨mk l, n, bx⟩ ⟨mk l', n', bx⟩ := ⟨h.mk, hn, rfl⟩
theorem runs_keep {c : Code} {l' : List (Nat × V)} (h : LeL l l') (hr : Runs P B N c ⟨mk l', n, bx⟩ Q) : Runs P B N c ⟨mk l, n, bx⟩ Q :=
  runs_weak h.mk (Nat.le_refl _) hr
theorem runs_bump {c : Code} (m : Nat) (hr : Runs P B N c ⟨mk l, n + m, bx⟩ Q) : Runs P B N c ⟨mk l, n, bx⟩ Q :=
  runs_weak (fun i => VLe.refl _) (Nat.le_add_right _ _) hr
/-- That there are no entries from n on. -/
theorem runs_know {c : Code} {s : S} (h : (∀ k, s.n ≤ k → s.bx k = .dead) → Runs P B N c s Q) : Runs P B N c s Q :=
  fun X a hs => h (fun k hk => by rw [← hs.bx]; exact hs.rr.dead k hk) X a hs
/-! Where a function begins and ends -/
theorem mk_zip : ∀ (vs : List V) (k i : Nat), VLe (vs.getD i .junk) (mk ((vs.zipIdx k).map fun p => (p.2, p.1)) (k + i)) := by
  intro vs
  induction vs with
  | nil => intro k i; simp [mk]; exact VLe.refl _
  | cons v vs ih =>
    intro k i
    simp only [List.zipIdx_cons, List.map_cons, mk]
    cases i with
    | zero => show VLe v (upd _ k v k); rw [upd_eq]; exact VLe.refl _
    | succ i =>
      rw [upd_ne _ _ _ _ (by omega)]
      have := ih (k + 1) i
      rw [show k + (i + 1) = k + 1 + i by omega]
      simpa using this
theorem PreOK.of {bx : Nat → Box} : ∀ {pre : List (Nat × Box)}, (∀ p ∈ pre, bx p.1 = p.2) → PreOK bx pre
  | [], h => trivial
  | (k, b) :: l, h => ⟨h (k, b) (List.mem_cons_self ..), PreOK.of (fun p hp => h p (List.mem_cons_of_mem _ hp))⟩
theorem does_mkr {f : FuncId} {fn : Func} {c : Code} {vs : List V} {pre up : List (Nat × Box)} {r : V} {l : List (Nat × V)} (m : Nat) (hf : P.funcs[f]? = some fn) (hb : fn.body = some c) (hl : Nat.ble vs.length fn.ntmps = true) (hl' : (vs.zipIdx.map fun p => (p.2, p.1)) = l)
    (h : ∀ n B bx, (∀ k, n ≤ k → bx k = .dead) → PreOK bx pre → UpLt n up → bdL n vs → (∀ k cs, bx k = .cells cs → bdL n cs) → (∀ k v e rows, bx k = .gcells v e rows → bdR n rows) → Outer B →
      Runs P B fn.ntmps c ⟨mk l, n + m, bx⟩ (fun e s => (e = .normal ∨ e = .ret) ∧ Fin P n bx up r fn.results.toList s)) : Does P f vs pre up r := by
  refine does_intro hf hb (Nat.le_of_ble_eq_true hl) (fun n B bx h1 h2 h3 h4 h5 h6 h7 => ?_)
  refine runs_weak (s := ⟨fun i => vs.getD i .junk, n, bx⟩) (t' := mk l) (n' := n + m) (fun i => ?_) (Nat.le_add_right _ _) (h n B bx h1 (.of h2) (UpLt.of h3) h4 h5 h6 h7)
  subst hl'
  have := mk_zip vs 0 i
  rw [Nat.zero_add] at this
  exact this
theorem does_mkg {f : FuncId} {fn : Func} {c : Code} {vs : List V} {pre up : List (Nat × Box)} {r : V} {l : List (Nat × V)} (m : Nat) (hf : P.funcs[f]? = some fn) (hb : fn.body = some c) (hl : Nat.ble vs.length fn.ntmps = true) (hl' : (vs.zipIdx.map fun p => (p.2, p.1)) = l)
    (h : ∀ n B bx, (∀ k, n ≤ k → bx k = .dead) → PreOK bx pre → UpLt n up → bdL n vs → (∀ k cs, bx k = .cells cs → bdL n cs) → (∀ k v e rows, bx k = .gcells v e rows → bdR n rows) →
      Runs P B fn.ntmps c ⟨mk l, n + m, bx⟩ (fun e s => (e = .normal ∨ e = .ret) ∧ Fin P n bx up r fn.results.toList s)) : Does P f vs pre up r :=
  does_mkr m hf hb hl hl' (fun n B bx h1 h2 h3 h4 h5 h6 _ => h n B bx h1 h2 h3 h4 h5 h6)
def UpG (n : Nat) : List (Nat × Box) → Prop
  | [] => True
  | (_, b) :: l => (match b with | .gcells _ _ rows => bdR n rows | _ => True) ∧ UpG n l
theorem UpG.all {n : Nat} : ∀ {up : List (Nat × Box)}, UpG n up → ∀ p ∈ up, ∀ v e rows, p.2 = .gcells v e rows → bdR n rows
  | [], _, p, hp, _, _, _, _ => by cases hp
  | (k, b) :: l, h, p, hp, v, e, rows, hq => by
    rcases List.mem_cons.1 hp with rfl | hp
    · simp only at hq; subst hq; exact h.1
    · exact UpG.all h.2 p hp v e rows hq
theorem fin_mkg {n0 : Nat} {bx0 : Nat → Box} {up : List (Nat × Box)} {r : V} {rs : List ResultVar} {vs : List V} (hv : ResV P ⟨mk l, n, bx⟩ rs vs) (hle : VLe (retV vs) r) (hb : r.bd n0) (hbx : ∀ k, k < n0 → BoxLe (bx k) (upds bx0 up k)) (hup : ∀ p ∈ up, ∀ cs, p.2 = .cells cs → bdL n0 cs) (hg : UpG n0 up) : Fin P n0 bx0 up r rs ⟨mk l, n, bx⟩ :=
  ⟨⟨vs, hv, hle, hb⟩, hbx, hup, hg.all⟩
theorem res0 : ResV P ⟨mk l, n, bx⟩ [] [] := rfl
theorem rest {t : Tmp} {v : V} {rs : List ResultVar} {vs : List V} (h : lk l t = some v) (hr : ResV P ⟨mk l, n, bx⟩ rs vs) : ResV P ⟨mk l, n, bx⟩ (.tmp t :: rs) (v :: vs) := by
  simp only [ResV]; exact ⟨vs, by rw [lk_mk h], hr⟩
theorem resc {t : Tmp} {ty : TypeId} {k m : Nat} {cs : List V} {rs : List ResultVar} {vs : List V} (h : lk l t = some (.ref k 0)) (hb : bx k = .cells cs) (ht : AggT P ty m) (hl : cs.length = m) (hr : ResV P ⟨mk l, n, bx⟩ rs vs) : ResV P ⟨mk l, n, bx⟩ (.cell t ty :: rs) (.agg cs :: vs) := by
  simp only [ResV]; exact ⟨k, cs, vs, _, rfl, lk_mk h, hb, .inl ⟨hl ▸ ht, rfl⟩, hr⟩
theorem resc1 {t : Tmp} {ty : TypeId} {k : Nat} {cs : List V} {v : V} {rs : List ResultVar} {vs : List V} (h : lk l t = some (.ref k 0)) (hb : bx k = .cells cs) (ht : OneT P ty) (hv : cs[0]? = some v) (hr : ResV P ⟨mk l, n, bx⟩ rs vs) : ResV P ⟨mk l, n, bx⟩ (.cell t ty :: rs) (v :: vs) := by
  simp only [ResV]; exact ⟨k, cs, vs, v, rfl, lk_mk h, hb, .inr ⟨ht, hv⟩, hr⟩
end
end Go.Vm
namespace Go.Vm
section
variable {P : Program}
theorem elemT_of {el : TypeId} {e : Nat} {z : Value} (h1 : (P.info? el).map (·.size) = some e) (h2 : (P.info? el).bind (·.zero) = some z) (h3 : z.cells.size = e) (h4 : ((P.info? el).map fun i => Nat.ble i.bytes 4096) = some true) : ElemT P el e := by
  refine ⟨h1, ⟨z, h2, h3⟩, ?_⟩
  cases hi : P.info? el with
  | none => simp [hi] at h1
  | some i => simp [hi] at h4; exact ⟨i, rfl, h4⟩
end
section
variable {P : Program} {o : Oper} {l : List (Nat × V)} {pre : List (Nat × Box)}
theorem step_mv {x : Operand} {v : V} (ho : o.op = .move x) (hx : lko l x = some v) : StepOK P o (mk l) [] [] v := ev_mk hx ▸ step_move ho
theorem step_as {x : Operand} {v : V} (ho : o.op = .assign x) (hx : lko l x = some v) : StepOK P o (mk l) [] [] v := ev_mk hx ▸ step_assign ho
theorem step_box_agg {ty : TypeId} {x : Operand} {cs : List V} {k : Nat} (ho : o.op = .box ty x) (hx : lko l x = some (.agg cs)) : StepOK P o (mk l) [(k, .dead)] [(k, .cells cs)] (.ref k 0) := step_box ho (ev_mk hx) rfl
def V.isAgg : V → Bool
  | .agg _ => true
  | _ => false
theorem V.cs_one {v : V} (hs : v.stor = true) (hv : v.isAgg = false) : v.cs = [v] := by cases v <;> first | rfl | cases hv
theorem step_box_one {ty : TypeId} {x : Operand} {v : V} {k : Nat} (ho : o.op = .box ty x) (hx : lko l x = some v) (hs : v.stor = true) (hv : v.isAgg = false) : StepOK P o (mk l) [(k, .dead)] [(k, .cells [v])] (.ref k 0) := V.cs_one hs hv ▸ step_box ho (ev_mk hx) hs
theorem step_allocc {ty : TypeId} {z : Value} {zs : List Value} {cs : List V} {k : Nat} (ho : o.op = .alloc ty) (hz : (P.info? ty).bind (·.zero) = some z) (hzs : z.cells.toList = zs) (h1 : zs.all oneV = true) (hcs : zs.map V.sc = cs) : StepOK P o (mk l) [(k, .dead)] [(k, .cells cs)] (.ref k 0) := hcs ▸ step_alloc ho hz hzs h1
/-- A store of one cell. -/
theorem step_store1 {ty : TypeId} {x y : Operand} {k q : Nat} {cs cs' : List V} {v : V} (ho : o.op = .store ty x y) (hd : o.dst = none) (hx : lko l x = some (.ref k q)) (hy : lko l y = some v) (ht : OneT P ty) (hs : v.stor = true) (hv : v.isAgg = false) (hl : q < cs.length) (hc : cs.set q v = cs') : StepOK P o (mk l) [(k, .cells cs)] [(k, .cells cs')] .junk := by
  refine step_store (v := v) (m := 1) ho hd (ev_mk hx) (ev_mk hy) hs ht.2 (by rw [V.cs_one hs hv]; rfl) (by omega) ?_
  rw [← hc, V.cs_one hs hv, List.set_eq_take_append_cons_drop, if_pos hl]
  simp
/-- A store of all of a box's cells. -/
theorem step_storeA {ty : TypeId} {x y : Operand} {k m : Nat} {cs cs' : List V} (ho : o.op = .store ty x y) (hd : o.dst = none) (hx : lko l x = some (.ref k 0)) (hy : lko l y = some (.agg cs')) (ht : AggT P ty m) (hm : cs'.length = m) (hl : cs.length = m) : StepOK P o (mk l) [(k, .cells cs)] [(k, .cells cs')] .junk := by
  refine step_store (v := .agg cs') (m := m) ho hd (ev_mk hx) (ev_mk hy) rfl ht.2 hm (by omega) ?_
  show cs.take 0 ++ cs' ++ cs.drop (0 + m) = cs'
  rw [List.take_zero, List.nil_append, Nat.zero_add, List.drop_of_length_le (by omega), List.append_nil]
theorem step_load_all {ty : TypeId} {x : Operand} {k m : Nat} {cs : List V} (ho : o.op = .load ty x) (hx : lko l x = some (.ref k 0)) (ht : AggT P ty m) (hl : cs.length = m) : StepOK P o (mk l) [(k, .cells cs)] [] (.agg cs) :=
  step_load_agg ho (ev_mk hx) ht (by rw [List.drop_zero, List.take_of_length_le (by omega)]) hl
theorem conv_int {ty ty2 : TypeId} {k k' : IntKind} {n : Int} (h1 : P.underlying ty = some (.int k)) (h2 : P.underlying ty2 = some (.int k')) (w : World) : (convert ty ty2 (.int k n)).run P w = .ok (.int k' (k'.wrap n)) w := by
  simp only [convert, Sem.run_bind, run_under h1, run_under h2, Result.andThen_ok]
  cases k' <;> rfl
theorem step_conv {ty ty2 : TypeId} {x : Operand} {k k' : IntKind} {n : Int} (ho : o.op = .convert ty ty2 x) (hx : lko l x = some (.sc (.int k n))) (h1 : P.underlying ty = some (.int k)) (h2 : P.underlying ty2 = some (.int k')) : StepOK P o (mk l) [] [] (.sc (.int k' (k'.wrap n))) :=
  step_convert ho (ev_mk hx) (conv_int h1 h2)
theorem step_conv_id {ty ty2 : TypeId} {x : Operand} {k k' : IntKind} {n : Int} (ho : o.op = .convert ty ty2 x) (hx : lko l x = some (.sc (.int k n))) (h1 : P.underlying ty = some (.int k)) (h2 : P.underlying ty2 = some (.int k')) (h : k'.wrap n = n) : StepOK P o (mk l) [] [] (.sc (.int k' n)) := by
  have := step_conv (P := P) (l := l) ho hx h1 h2
  rwa [h] at this
/-- An element of a list that has it. -/
def at' {α : Type} [Inhabited α] (xs : List α) (i : Int) : α := xs.getD i.toNat default
theorem map_at {α : Type} [Inhabited α] (f : α → List V) (xs : List α) (i : Int) (h0 : 0 ≤ i) (h : i < xs.length) : (xs.map f)[i.toNat]? = some (f (at' xs i)) := by
  have hl : i.toNat < xs.length := by omega
  rw [List.getElem?_map, List.getElem?_eq_getElem hl, Option.map_some, at', List.getD_eq_getElem?_getD, List.getElem?_eq_getElem hl, Option.getD_some]
theorem bdL_all {n : Nat} : ∀ {vs : List V}, (∀ v ∈ vs, v.bd n) → bdL n vs
  | [], h => trivial
  | v :: vs, h => ⟨h v (List.mem_cons_self ..), bdL_all fun u hu => h u (List.mem_cons_of_mem _ hu)⟩
theorem bdR_all {n : Nat} : ∀ {vs : List (List V)}, (∀ v ∈ vs, bdL n v) → bdR n vs
  | [], h => trivial
  | v :: vs, h => ⟨h v (List.mem_cons_self ..), bdR_all fun u hu => h u (List.mem_cons_of_mem _ hu)⟩
theorem bdL_map {α : Type} {n : Nat} {f : α → V} {xs : List α} (h : ∀ x, (f x).bd n) : bdL n (xs.map f) := bdL_all fun v hv => by obtain ⟨x, _, rfl⟩ := List.mem_map.1 hv; exact h x
theorem bdR_map {α : Type} {n : Nat} {f : α → List V} {xs : List α} (h : ∀ x, bdL n (f x)) : bdR n (xs.map f) := bdR_all fun v hv => by obtain ⟨x, _, rfl⟩ := List.mem_map.1 hv; exact h x
theorem fill_lit {e : Nat} : ∀ (vs : List V) (done : List (List V)) (zs : List V), (∀ v ∈ vs, v.cs.length = e ∧ v.stor = true) → (∀ r ∈ done, r.length = e) → zs.length = vs.length * e →
    fillV (fun i => some (i * e, e)) (done.flatten ++ zs) ((vs.zipIdx done.length).map fun p => (p.2, p.1)) = some (done.flatten ++ (vs.map V.cs).flatten)
  | [], done, zs, h, hd, hz => by simp at hz; subst hz; simp [fillV]
  | v :: vs, done, zs, h, hd, hz => by
    obtain ⟨h1, h2⟩ := h v (List.mem_cons_self ..)
    have hfl := flat_len hd
    rw [List.length_cons, Nat.add_mul] at hz
    simp only [List.zipIdx_cons, List.map_cons, fillV]
    rw [if_pos ⟨h1, by simp only [List.length_append, hfl]; omega, h2⟩]
    have hseg : setSeg (done.flatten ++ zs) (done.length * e) v.cs = (done ++ [v.cs]).flatten ++ zs.drop e := by
      unfold setSeg
      rw [← hfl, List.take_left, h1, List.flatten_append]
      rw [List.drop_append]
      simp
    rw [hseg]
    have := fill_lit vs (done ++ [v.cs]) (zs.drop e) (fun u hu => h u (List.mem_cons_of_mem _ hu)) (fun r hr => by rcases List.mem_append.1 hr with hr | hr; exact hd r hr; rw [List.mem_singleton.1 hr]; exact h1) (by simp; omega)
    rw [List.length_append, List.length_singleton] at this
    rw [this]
    simp
theorem rows_lit {e : Nat} : ∀ (rs : List (List V)), (∀ r ∈ rs, r.length = e) → rowsOf e rs.length rs.flatten = rs
  | [], h => rfl
  | r :: rs, h => by
    have hr := h r (List.mem_cons_self ..)
    rw [List.length_cons, List.flatten_cons]
    simp only [rowsOf]
    rw [← hr, List.take_left, List.drop_left, hr, rows_lit rs (fun r' hr' => h r' (List.mem_cons_of_mem _ hr'))]
/-- A slice's literal that names all its elements in order. -/
theorem step_lit {ty el : TypeId} {len e : Nat} {ps : Array (Nat × Operand)} {z : Value} {vs : List V} {xs : List (List V)} (ho : o.op = .buildSlice ty len ps) (hu : P.underlying ty = some (.slice el)) (he : (P.info? el).map (·.size) = some e)
    (hz : (P.info? el).bind (·.zero) = some z) (hz1 : z.cells.size = e) (h1 : z.cells.toList.all oneV = true) (hlim : len * e ≤ 2 ^ 24) (hvs : lks l (ps.toList.map (·.2)) = some vs) (hix : ps.toList.map (·.1) = List.range len)
    (hv : ∀ v ∈ vs, v.cs.length = e ∧ v.stor = true) (hxs : vs.map V.cs = xs) : StepOK P o (mk l) [] [] (.fl e xs) := by
  have hev := evs_mk hvs
  have hl : vs.length = len := by
    have := congrArg List.length hix
    rw [← hev]; simpa using this
  have hzr := zero_rows z e hz1 len
  have hps : ps.toList.map (fun p => (p.1, ev (mk l) p.2)) = (vs.zipIdx 0).map fun p => (p.2, p.1) := by
    rw [← hev]
    apply List.ext_getElem (by simp)
    intro i h1 h2
    have h3 : i < (ps.toList.map (·.1)).length := by simpa using h1
    have h4 : (ps.toList.map (·.1))[i] = i := by
      have : (ps.toList.map (·.1))[i] = (List.range len)[i]'(by rw [← hix]; exact h3) := by congr 1
      rw [this]; simp
    simp at h4
    simp [h4]
  have hlen : ∀ r ∈ vs.map V.cs, r.length = e := fun r hr => by obtain ⟨v, hv', rfl⟩ := List.mem_map.1 hr; exact (hv v hv').1
  refine step_buildSlice (zs := (List.replicate len z.cells.toList).flatten) (cs := (vs.map V.cs).flatten) ho hu he hz hzr ?_ hlim ?_ ?_
  · rw [List.all_eq_true] at h1 ⊢
    intro q hq
    obtain ⟨l', h2, h3⟩ := List.mem_flatten.1 hq
    rw [List.eq_of_mem_replicate h2] at h3
    exact h1 q h3
  · rw [hps]
    have := fill_lit (e := e) vs [] ((List.replicate len z.cells.toList).flatten.map V.sc) hv (by simp) (by
      rw [List.length_map, ← hzr]; simp [hl])
    simpa using this
  · rw [← hxs]
    have := rows_lit (vs.map V.cs) hlen
    rwa [List.length_map, hl] at this
end
end Go.Vm
namespace Go.Vm
section
variable {P : Program} {B : Bas} {N : Nat} {Q : Exit → S → Prop} {l : List (Nat × V)} {n : Nat} {bx : Nat → Box}
end
end Go.Vm
namespace Go.Vm
section
variable {P : Program} {B : Bas} {N : Nat} {Q : Exit → S → Prop} {ops : Array Oper} {L : List Oper} {o : Oper} {l : List (Nat × V)} {n : Nat} {bx : Nat → Box} {cs : List Ac}
/-! Regions that draw their order -/
theorem GuardOK.good {c : Ac} (hg : GuardOK N ops l o) (hs : StepOK P o (mk l) c.pre c.up c.val) : GoodAt P ops o (mk l) c := by
  rcases hg with hg | ⟨j, w, g, d, b, h1, h2, h3, h4, h5, h6⟩
  · exact .inl ⟨hg, hs⟩
  · have hbw : b = w := by simpa using h6
    subst hbw
    exact .inr ⟨j, b, g, d, h1, h2, h3, .inl ⟨lk_mk h4, hs⟩⟩
def ApList (ops : Array Oper) (i : Nat) (c : Ac) : Nat → List Ac → Prop
  | _, [] => True
  | j, c' :: cs => (reach ops ops.size j i = true ∨ Apart c c') ∧ ApList ops i c (j + 1) cs
def ApAll (ops : Array Oper) : Nat → List Ac → Prop
  | _, [] => True
  | i, c :: cs => ApList ops i c (i + 1) cs ∧ ApAll ops (i + 1) cs
theorem ApList.get {i : Nat} {c : Ac} : ∀ {cs : List Ac} {j m : Nat} {c' : Ac}, ApList ops i c j cs → cs[m]? = some c' → reach ops ops.size (j + m) i = true ∨ Apart c c'
  | [], j, m, c', h, hm => by simp at hm
  | d :: cs, j, m, c', h, hm => by
    simp only [ApList] at h
    cases m with
    | zero => simp at hm; subst hm; exact h.1
    | succ m => rw [show j + (m + 1) = j + 1 + m by omega]; exact ApList.get h.2 (by simpa using hm)
theorem ApAll.get : ∀ {cs : List Ac} {k i j : Nat} {c c' : Ac}, ApAll ops k cs → cs[i]? = some c → cs[j]? = some c' → i < j → reach ops ops.size (k + j) (k + i) = true ∨ Apart c c'
  | [], k, i, j, c, c', h, hi, hj, hij => by simp at hi
  | d :: cs, k, i, j, c, c', h, hi, hj, hij => by
    simp only [ApAll] at h
    cases j with
    | zero => omega
    | succ j =>
      cases i with
      | zero =>
        simp at hi; subst hi
        have := ApList.get h.1 (m := j) (by simpa using hj)
        rw [show k + (j + 1) = k + 1 + j by omega]
        exact this
      | succ i =>
        have := ApAll.get (i := i) (j := j) h.2 (by simpa using hi) (by simpa using hj) (by omega)
        rw [show k + (j + 1) = k + 1 + j by omega, show k + (i + 1) = k + 1 + i by omega]
        exact this
theorem ap0 (p p' : List (Nat × Box)) (v v' : V) : Apart ⟨p, [], v⟩ ⟨p', [], v'⟩ := ⟨by simp, by simp⟩
theorem ap2 (p u : List (Nat × Box)) (v v' : V) : Apart ⟨[], [], v⟩ ⟨p, u, v'⟩ := ⟨by simp, by simp⟩
theorem ap3 (p u : List (Nat × Box)) (v v' : V) : Apart ⟨p, u, v⟩ ⟨[], [], v'⟩ := ⟨by simp, by simp⟩
/-- The temporaries behind all of them. -/
def tall : List Oper → List Ac → (Nat → V) → (Nat → V)
  | o :: L, c :: cs, t => tall L cs (putS t o.dst c.val)
  | _, _, t => t
def ball : List Ac → (Nat → Box) → (Nat → Box)
  | c :: cs, bx => ball cs (upds bx c.up)
  | [], bx => bx
theorem tsub_all : ∀ (L : List Oper) (cs : List Ac) (k : Nat) (t : Nat → V), tsub (fun _ => true) k L cs t = tall L cs t
  | [], cs, k, t => by cases cs <;> rfl
  | o :: L, [], k, t => rfl
  | o :: L, c :: cs, k, t => by simp only [tsub, tall, if_true]; exact tsub_all L cs (k + 1) _
theorem bsub_all : ∀ (cs : List Ac) (k : Nat) (bx : Nat → Box), bsub (fun _ => true) k cs bx = ball cs bx
  | [], k, bx => rfl
  | c :: cs, k, bx => by simp only [bsub, ball, if_true]; exact bsub_all cs (k + 1) _
/-- What is left of a region that draws its order, behind what is told in acc (the last ahead). -/
def DrawL (P : Program) (N n : Nat) (ops : Array Oper) (Q : Exit → S → Prop) (L : List Oper) (t : Nat → V) (bx : Nat → Box) (acc : List Ac) : Prop :=
  ∃ cs, ActsOK P ops n L t bx cs ∧ ApAll ops 0 (acc.reverse ++ cs) ∧ Q .normal ⟨tall L cs t, n, ball cs bx⟩
variable {acc : List Ac}
theorem dlnil (h : ApAll ops 0 acc.reverse) (hQ : Q .normal ⟨mk l, n, bx⟩) : DrawL P N n ops Q [] (mk l) bx acc := ⟨[], trivial, by simpa using h, hQ⟩
theorem dl_any {pre up : List (Nat × Box)} {v : V} (hg : GuardOK N ops l o) (hs : StepOK P o (mk l) pre up v) (hp : PreOK bx pre) (hu : ∀ p ∈ up, p.1 < n) (h : DrawL P N n ops Q L (putS (mk l) o.dst v) (upds bx up) (⟨pre, up, v⟩ :: acc)) : DrawL P N n ops Q (o :: L) (mk l) bx acc := by
  obtain ⟨cs, h1, h2, h3⟩ := h
  refine ⟨⟨pre, up, v⟩ :: cs, ⟨hg.good (c := ⟨pre, up, v⟩) hs, hp.all, hu, h1⟩, ?_, h3⟩
  simpa using h2
theorem dl0 {pre : List (Nat × Box)} {d : Nat} {v : V} (hg : GuardOK N ops l o) (hd : o.dst = some d) (_hN : Nat.blt d N = true) (hs : StepOK P o (mk l) pre [] v) (hp : PreOK bx pre) (h : DrawL P N n ops Q L (mk ((d, v) :: l)) bx (⟨pre, [], v⟩ :: acc)) : DrawL P N n ops Q (o :: L) (mk l) bx acc :=
  dl_any hg hs hp (by simp) (by rw [hd]; exact h)
theorem dls {pre : List (Nat × Box)} {k : Nat} {b : Box} {v : V} (hg : GuardOK N ops l o) (hd : o.dst = none) (hs : StepOK P o (mk l) pre [(k, b)] v) (hp : PreOK bx pre) (hk : k < n) (h : DrawL P N n ops Q L (mk l) (upd bx k b) (⟨pre, [(k, b)], v⟩ :: acc)) : DrawL P N n ops Q (o :: L) (mk l) bx acc :=
  dl_any hg hs hp (by simpa using hk) (by rw [hd]; exact h)
theorem dlk_any {j : Nat} {w : Bool} {g : Oper} {d : Nat} {v : V} (h1 : o.guard = some (j, w)) (h2 : ops[j]? = some g) (h3 : g.dst = some d) (h4 : lk l d = some v) (h6 : NoGuard v w) (h : DrawL P N n ops Q L (putS (mk l) o.dst (.sc undef)) bx (⟨[], [], .sc undef⟩ :: acc)) : DrawL P N n ops Q (o :: L) (mk l) bx acc := by
  obtain ⟨cs, g1, g2, g3⟩ := h
  refine ⟨⟨[], [], .sc undef⟩ :: cs, ⟨.inr ⟨j, w, g, d, h1, h2, h3, .inr ⟨by rw [lk_mk h4]; exact h6, rfl, rfl, rfl⟩⟩, by simp, by simp, g1⟩, ?_, g3⟩
  simpa using g2
theorem dlk {j : Nat} {w : Bool} {g : Oper} {d : Nat} {v : V} (h1 : o.guard = some (j, w)) (h2 : ops[j]? = some g) (h3 : g.dst = some d) (h4 : lk l d = some v) (_h5 : Nat.blt d N = true) (h6 : NoGuard v w) {d' : Nat} (hd : o.dst = some d') (_hN : Nat.blt d' N = true)
    (h : DrawL P N n ops Q L (mk ((d', .sc undef) :: l)) bx (⟨[], [], .sc undef⟩ :: acc)) : DrawL P N n ops Q (o :: L) (mk l) bx acc := dlk_any h1 h2 h3 h4 h6 (by rw [hd]; exact h)
theorem dl_bool {d : Nat} {b : Bool} (hb : lk l d = some (.sc (.bool b))) (h1 : b = true → DrawL P N n ops Q L (mk ((d, .sc (.bool true)) :: l)) bx acc) (h2 : b = false → DrawL P N n ops Q L (mk ((d, .sc (.bool false)) :: l)) bx acc) : DrawL P N n ops Q L (mk l) bx acc := by
  have hm := lk_mk hb
  have key : ∀ c, b = c → mk ((d, .sc (.bool c)) :: l) = mk l := by
    intro c hc
    funext i
    by_cases hi : i = d
    · subst hi; simp only [mk, upd_eq]; rw [hm, hc]
    · simp only [mk, upd_ne _ _ _ _ hi]
  cases b with
  | true => have := h1 rfl; rwa [key true rfl] at this
  | false => have := h2 rfl; rwa [key false rfl] at this
theorem dl_cmp {op : BinOp} {ty ty2 : TypeId} {x y : Operand} {d : Nat} {a b : Value} {c : Bool} (hg : GuardOK N ops l o) (hd : o.dst = some d) (hN : Nat.blt d N = true) (ho : o.op = .binOp op ty x y ty2) (hx : lko l x = some (.sc a)) (hy : lko l y = some (.sc b))
    (hr : ∀ w, (do eqGuard op ty x y a b; binOp op ty a b : Sem Value).run P w = .ok (.bool c) w) (h1 : c = true → DrawL P N n ops Q L (mk ((d, .sc (.bool true)) :: l)) bx (⟨[], [], .sc (.bool true)⟩ :: acc)) (h2 : c = false → DrawL P N n ops Q L (mk ((d, .sc (.bool false)) :: l)) bx (⟨[], [], .sc (.bool false)⟩ :: acc)) : DrawL P N n ops Q (o :: L) (mk l) bx acc := by
  have hs : StepOK P o (mk l) [] [] (.sc (.bool c)) := step_binOp ho (ev_mk hx) (ev_mk hy) hr
  cases c with
  | true => exact dl0 hg hd hN hs trivial (h1 rfl)
  | false => exact dl0 hg hd hN hs trivial (h2 rfl)
section
variable {ty ty2 : TypeId} {x y : Operand} {d : Nat} {k : IntKind} {a b : Int}
theorem dl_leq (hg : GuardOK N ops l o) (hd : o.dst = some d) (hN : Nat.blt d N = true) (ho : o.op = .binOp .leq ty x y ty2) (hx : lko l x = some (.sc (.int k a))) (hy : lko l y = some (.sc (.int k b)))
    (h1 : a ≤ b → DrawL P N n ops Q L (mk ((d, .sc (.bool true)) :: l)) bx (⟨[], [], .sc (.bool true)⟩ :: acc)) (h2 : ¬ a ≤ b → DrawL P N n ops Q L (mk ((d, .sc (.bool false)) :: l)) bx (⟨[], [], .sc (.bool false)⟩ :: acc)) : DrawL P N n ops Q (o :: L) (mk l) bx acc :=
  dl_cmp hg hd hN ho hx hy run_leq (fun h => h1 (of_decide_eq_true h)) (fun h => h2 (of_decide_eq_false h))
theorem dl_eql (hg : GuardOK N ops l o) (hd : o.dst = some d) (hN : Nat.blt d N = true) (ho : o.op = .binOp .eql ty x y ty2) (hx : lko l x = some (.sc (.int k a))) (hy : lko l y = some (.sc (.int k b)))
    (h1 : a = b → DrawL P N n ops Q L (mk ((d, .sc (.bool true)) :: l)) bx (⟨[], [], .sc (.bool true)⟩ :: acc)) (h2 : ¬ a = b → DrawL P N n ops Q L (mk ((d, .sc (.bool false)) :: l)) bx (⟨[], [], .sc (.bool false)⟩ :: acc)) : DrawL P N n ops Q (o :: L) (mk l) bx acc :=
  dl_cmp hg hd hN ho hx hy run_eql (fun h => h1 (by simpa using h)) (fun h => h2 (by simpa using h))
end
theorem runs_draw {id : Nat} (hm : P.follows .mixedOrders = true) (hdep : depOK ops = true) (hdst : ops.toList.all (fun o => okDst N o.dst) = true) (h : DrawL P N n ops Q ops.toList (mk l) bx []) : Runs P B N (.region id ops true) ⟨mk l, n, bx⟩ Q := by
  obtain ⟨cs, h1, h2, h3⟩ := h
  have h2 : ApAll ops 0 cs := by simpa using h2
  refine runs_region_draw (s := ⟨mk l, n, bx⟩) cs hm hdep hdst h1 (fun i j c c' hi hj hij => by have := h2.get hi hj hij; simpa using this) ?_
  rw [tsub_all, bsub_all]
  exact h3
end
end Go.Vm
namespace Go.Vm
theorem lt_cells {n k : Nat} {bx : Nat → Box} {cs : List V} (hd : ∀ k, n ≤ k → bx k = .dead) (h : bx k = .cells cs) : k < n := by
  apply Nat.lt_of_not_le
  intro hn
  rw [hd k hn] at h; cases h
theorem ble {b b' : Box} (h : b = b') : BoxLe b b' := .inl h
theorem blec {b : Box} {cs cs' : List V} (h : b = .cells cs) (hl : VLes cs cs') : BoxLe b (.cells cs') := .inr (.inl ⟨cs, cs', h, rfl, hl⟩)
end Go.Vm
namespace Go.Vm
theorem bl_eq {f : Nat → Box} {k : Nat} {b c : Box} (h : BoxLe c b) : BoxLe c (upd f k b k) := by rw [upd_eq]; exact h
theorem bl_ne {f : Nat → Box} {k i : Nat} {b c : Box} (hi : i ≠ k) (h : BoxLe c (f i)) : BoxLe c (upd f k b i) := by rw [upd_ne _ _ _ _ hi]; exact h
end Go.Vm
namespace Go.Vm
section
variable {P : Program} {B : Bas} {N : Nat} {Q : Exit → S → Prop} {l : List (Nat × V)} {n : Nat} {bx : Nat → Box}
/-- A nil slice in a box, told as one that can grow. -/
theorem runs_growb {c : Code} {k kn e q : Nat} {cs : List V} (hk : bx k = .cells cs) (hq : cs[q]? = some (.sc (.slice none 0 0))) (hd : bx kn = .dead) (hn : kn < n) (hne : kn ≠ k) (h : Runs P B N c ⟨mk l, n, upd (upd bx kn (.tail 0)) k (.cells (cs.set q (.own e [] kn)))⟩ Q) : Runs P B N c ⟨mk l, n, bx⟩ Q := by
  intro X a hs
  have hXd : X.bx kn = .dead := by rw [hs.bx]; exact hd
  have hX : X.bx k = .cells cs := by rw [hs.bx]; exact hk
  obtain ⟨t1, t2⟩ := new_tail (m := 0) hs.rr hXd hn
  have hX1 : (upd X.bx kn (.tail 0)) k = .cells cs := by rw [upd_ne _ _ _ _ (Ne.symm hne)]; exact hX
  obtain ⟨h1, us, ty, h2, h3, h4⟩ := t1.box k cs hX1
  have hrow : RowRep { X with bx := upd X.bx kn (.tail 0) } (cs.set q (.own e [] kn)) us := by
    have key : ∀ (cs : List V) (us : List Value) (q : Nat), RowRep { X with bx := upd X.bx kn (.tail 0) } cs us → cs[q]? = some (.sc (.slice none 0 0)) → RowRep { X with bx := upd X.bx kn (.tail 0) } (cs.set q (.own e [] kn)) us := by
      intro cs
      induction cs with
      | nil => intro us q h hq; simp at hq
      | cons v vs ih =>
        intro us q h hq
        simp only [RowRep] at h
        obtain ⟨u, us', rfl, g1, g2⟩ := h
        cases q with
        | zero =>
          simp at hq; subst hq
          simp only [List.set_cons_zero, RowRep]
          refine ⟨u, us', rfl, ?_, g2⟩
          simp only [VRep] at g1 ⊢
          subst g1
          exact ⟨none, 0, rfl, Nat.le_refl _, .inl trivial, 0, upd_eq _ _ _, Nat.le_refl _, fun _ => .inl rfl⟩
        | succ q =>
          simp only [List.set_cons_succ, RowRep]
          exact ⟨u, us', rfl, g1, ih us' q g2 (by simpa using hq)⟩
    exact key cs us q h3 hq
  obtain ⟨e1, e2⟩ := set_box (X := { X with bx := upd X.bx kn (.tail 0) }) (w' := X.w) t1 hX1 rfl rfl rfl rfl (fun _ _ => rfl) ⟨ty, h2⟩ hrow h4
  exact h { X with bx := upd (upd X.bx kn (.tail 0)) k (.cells (cs.set q (.own e [] kn))) } a ⟨e1, by show upd (upd X.bx kn _) k _ = upd (upd bx kn _) k _; rw [show X.bx = bx from hs.bx], fun i => VRep.mono e2 _ _ (VRep.mono t2 _ _ (hs.t i)), hs.N, hs.defers.mono (t2.trans e2) rfl, (hs.ext.trans t2).trans e2⟩
end
end Go.Vm
namespace Go.Vm
theorem vle_bool {b c : Bool} (h : b = c) : VLe (.sc (.bool b)) (.sc (.bool c)) := by rw [h]; exact VLe.refl _
theorem vle_int {k : IntKind} {b c : Int} (h : b = c) : VLe (.sc (.int k b)) (.sc (.int k c)) := by rw [h]; exact VLe.refl _
end Go.Vm

