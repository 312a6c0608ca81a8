/- A logic of values over the model. Part V: ranges told by lists of entries. -/
import Derived.Test.YthpkhecialkmmaaKeVmU
import Derived.Test.YthpkhecialkmmaaKeVmP
set_option linter.unusedVariables false
set_option linter.unusedSimpArgs false
namespace Go.Vm
def AllP {α : Type} (p : α → Prop) : List α → Prop
  | [] => True
  | a :: l => p a ∧ AllP p l
theorem AllP.mem {α : Type} {p : α → Prop} : ∀ {l : List α}, AllP p l → ∀ a ∈ l, p a
  | [], _, a, ha => by cases ha
  | b :: l, h, a, ha => by
    rcases List.mem_cons.1 ha with rfl | ha
    · exact h.1
    · exact AllP.mem h.2 a ha
theorem AllP.of {α : Type} {p : α → Prop} : ∀ {l : List α}, (∀ a ∈ l, p a) → AllP p l
  | [], _ => trivial
  | b :: l, h => ⟨h b (List.mem_cons_self ..), AllP.of fun a ha => h a (List.mem_cons_of_mem _ ha)⟩
def lkB : List (Nat × Box) → Nat → Box
  | [], _ => .dead
  | (k, b) :: l, j => if j = k then b else lkB l j
def inK : List Nat → Nat → Bool
  | [], _ => false
  | k :: l, j => Nat.beq j k || inK l j
def updL : List (Nat × Box) → (Nat → Box) → Nat → Box
  | [], bx => bx
  | (k, b) :: l, bx => upd (updL l bx) k b
theorem inK_no : ∀ {l : List Nat} {j : Nat}, inK l j = false → AllP (fun k => j ≠ k) l
  | [], _, _ => trivial
  | k :: l, j, h => by
    unfold inK at h
    rw [Bool.or_eq_false_iff] at h
    exact ⟨fun e => (by rw [e, Nat.beq_refl] at h; cases h.1), inK_no h.2⟩
theorem inK_not : ∀ {l : List Nat} {j : Nat}, AllP (fun k => j ≠ k) l → inK l j = false
  | [], _, _ => rfl
  | k :: l, j, h => by
    unfold inK
    rw [inK_not h.2, Bool.or_false]
    cases hb : Nat.beq j k with
    | false => rfl
    | true => exact absurd (Nat.eq_of_beq_eq_true hb) h.1
theorem ov_updL (l : List (Nat × Box)) (bx : Nat → Box) : ov (inK (l.map (·.1))) (lkB l) bx = updL l bx := by
  induction l with
  | nil => rfl
  | cons p l ih =>
    obtain ⟨k, b⟩ := p
    funext j
    show ov (inK (k :: l.map (·.1))) (lkB ((k, b) :: l)) bx j = upd (updL l bx) k b j
    by_cases e : j = k
    · subst e
      rw [upd_eq]
      exact ovY (by simp [inK]) (by simp [lkB])
    · rw [upd_ne _ _ _ _ e, ← ih]
      have h0 : Nat.beq j k = false := by
        cases hb : Nat.beq j k with
        | false => rfl
        | true => exact absurd (Nat.eq_of_beq_eq_true hb) e
      unfold ov
      have e1 : inK (k :: l.map (·.1)) j = inK (l.map (·.1)) j := by simp [inK, h0]
      have e2 : lkB ((k, b) :: l) j = lkB l j := by simp [lkB, e]
      rw [e1]
      cases inK (l.map (·.1)) j with
      | true => exact e2
      | false => rfl
/-- What is so of an entry, told by a list. -/
theorem lkB_all {p : Nat → Box → Prop} : ∀ {l : List (Nat × Box)}, AllP (fun q => p q.1 q.2) l → ∀ {k : Nat}, inK (l.map (·.1)) k = true → p k (lkB l k)
  | [], _, k, h => by cases h
  | (j, b) :: l, hp, k, h => by
    by_cases e : k = j
    · subst e; simp only [lkB, if_pos]; exact hp.1
    · have : inK (l.map (·.1)) k = true := by
        have h' : (Nat.beq k j || inK (l.map (·.1)) k) = true := h
        rw [Bool.or_eq_true] at h'
        exact h'.resolve_left fun q => e (Nat.eq_of_beq_eq_true q)
      simp only [lkB, if_neg e]
      exact lkB_all hp.2 this
def dL (Dl : List (Nat × (Nat → Box))) (i : Nat) : List (Nat × Box) := Dl.map fun p => (p.1, p.2 i)
def eL (El : List (Nat × Box × (Nat → Bool → Box))) : List (Nat × Box) := El.map fun p => (p.1, p.2.1)
def eM (El : List (Nat × Box × (Nat → Bool → Box))) (m : Nat) (b : Bool) : List (Nat × Box) := El.map fun p => (p.1, p.2.2 m b)
theorem dL_keys (Dl : List (Nat × (Nat → Box))) (i : Nat) : (dL Dl i).map (·.1) = Dl.map (·.1) := by simp [dL, Function.comp_def]
theorem eL_keys (El : List (Nat × Box × (Nat → Bool → Box))) : (eL El).map (·.1) = El.map (·.1) := by simp [eL, Function.comp_def]
theorem eM_keys (El : List (Nat × Box × (Nat → Bool → Box))) (m : Nat) (b : Bool) : (eM El m b).map (·.1) = El.map (·.1) := by simp [eM, Function.comp_def]
/-- An iterator's contract, its own entries told by a list. -/
def DoesL (P : Program) (f : FuncId) (caps : List V) (xs : List (List V)) (El : List (Nat × Box × (Nat → Bool → Box))) (pre : List (Nat × Box)) : Prop :=
  DoesI P f caps xs (inK (El.map (·.1))) (lkB (eL El)) (fun m b => lkB (eM El m b)) pre
theorem DoesL.le {P : Program} {f : FuncId} {caps caps' : List V} {xs : List (List V)} {El : List (Nat × Box × (Nat → Bool → Box))} {pre : List (Nat × Box)} (h : DoesL P f caps' xs El pre) (hl : VLes caps caps') : DoesL P f caps xs El pre := DoesI.le h hl
/-- The rounds, by lists. -/
def RoundsL' (P : Program) (B : Bas) (N n : Nat) (l : List (Nat × V)) (bx : Nat → Box) (ps : Array Tmp) (assign body : Code) (xs : List (List V)) (Dl : List (Nat × (Nat → Box))) (ks : List Nat) (kl m : Nat) (brk : Bool) (ex : Exit) : Prop :=
  ∀ i v, i < m → xs[i]? = some v → ∀ (B' : Bas) (n' lr : Nat) (bx' : Nat → Box), B'.R = some lr → B'.c.bl kl = lr → B'.c.bx kl = bx' kl → (∃ r0, bx' kl = .obj (.loop r0)) → Ext B.c B'.c → n ≤ n' → (∀ k, n' ≤ k → bx' k = .dead) → AllP (fun p => bx' p.1 = p.2 i) Dl → (∀ k, k < n → AllP (fun q => k ≠ q) ks → k ≠ kl → bx' k = bx k) →
    Runs P B' N assign ⟨mk (zipps ps.toList v l), n', bx'⟩ (fun e s => e = .normal ∧ s.bx kl = bx' kl ∧ ∀ r1, Runs P B' N body ⟨s.t, s.n, upd s.bx kl (.obj (.loop r1))⟩ (fun e s => e = (if brk = true ∧ i + 1 = m then ex else .normal) ∧ s.bx kl = .obj (.loop r1) ∧ ∀ k, k < n' → k ≠ kl → BoxLe (s.bx k) (updL (dL Dl (i + 1)) bx' k)))
theorem AllP.map {α β : Type} {p : β → Prop} {f : α → β} : ∀ {l : List α}, AllP (fun a => p (f a)) l → AllP p (l.map f)
  | [], _ => trivial
  | _ :: _, h => ⟨h.1, AllP.map h.2⟩
theorem AllP.imp {α : Type} {p q : α → Prop} (hi : ∀ a, p a → q a) : ∀ {l : List α}, AllP p l → AllP q l
  | [], _ => trivial
  | _ :: _, h => ⟨hi _ h.1, AllP.imp hi h.2⟩
def DistK : List Nat → Prop
  | [] => True
  | k :: l => AllP (fun j => k ≠ j) l ∧ DistK l
theorem lkB_ne : ∀ {l : List (Nat × Box)} {k : Nat} {b : Box} {j : Nat}, j ≠ k → lkB ((k, b) :: l) j = lkB l j := fun h => by simp [lkB, h]
theorem lkB_get : ∀ {l : List (Nat × Box)}, DistK (l.map (·.1)) → ∀ p ∈ l, lkB l p.1 = p.2
  | [], _, p, hp => by cases hp
  | (k, b) :: l, hd, p, hp => by
    rcases List.mem_cons.1 hp with rfl | hp
    · simp [lkB]
    · have : p.1 ≠ k := fun e => (hd.1.mem p.1 (List.mem_map.2 ⟨p, hp, rfl⟩)) e.symm
      rw [lkB_ne this]; exact lkB_get hd.2 p hp
theorem inK_mem : ∀ {l : List Nat} {k : Nat}, k ∈ l → inK l k = true
  | [], k, h => by cases h
  | j :: l, k, h => by
    rcases List.mem_cons.1 h with rfl | h
    · simp [inK]
    · simp [inK, inK_mem h]
section
variable {P : Program} {B : Bas} {N n : Nat} {l : List (Nat × V)} {bx : Nat → Box} {Q : Exit → S → Prop} {g : Operand} {ps : Array Tmp} {assign body : Code} {f : FuncId} {caps : List V} {xs : List (List V)} {fnn : Func} {Dl : List (Nat × (Nat → Box))} {El : List (Nat × Box × (Nat → Bool → Box))} {m : Nat} {brk : Bool} {ex : Exit} {gv : V} {kl : Nat} {pre : List (Nat × Box)}
theorem inK_app {l l' : List Nat} {k : Nat} (h : inK (l ++ l') k = false) : inK l k = false ∧ inK l' k = false := by
  induction l with
  | nil => exact ⟨rfl, h⟩
  | cons j l ih =>
    have h' : (Nat.beq k j || inK (l ++ l') k) = false := h
    rw [Bool.or_eq_false_iff] at h'
    have := ih h'.2
    exact ⟨by show (Nat.beq k j || inK l k) = false; rw [h'.1, this.1]; rfl, this.2⟩
theorem roundsL (hd : DistK (Dl.map (·.1))) (h : RoundsL' P B N n l bx ps assign body xs Dl (Dl.map (·.1) ++ El.map (·.1)) kl m brk ex) : Rounds P B N n l bx ps assign body xs (inK (Dl.map (·.1))) (inK (El.map (·.1))) (fun i => lkB (dL Dl i)) kl m brk ex := by
  intro i v hi hv B' n' lr bx' h1 h2 h3 h4 h5 h6 h7 h8 h9
  have e : ov (inK (Dl.map (·.1))) (lkB (dL Dl (i + 1))) bx' = updL (dL Dl (i + 1)) bx' := by rw [← ov_updL, dL_keys]
  show Runs P B' N assign _ (fun e s => e = .normal ∧ s.bx kl = bx' kl ∧ ∀ r1, Runs P B' N body ⟨s.t, s.n, upd s.bx kl (.obj (.loop r1))⟩ (fun e s => e = (if brk = true ∧ i + 1 = m then ex else .normal) ∧ s.bx kl = .obj (.loop r1) ∧ ∀ k, k < n' → k ≠ kl → BoxLe (s.bx k) (ov (inK (Dl.map (·.1))) (lkB (dL Dl (i + 1))) bx' k)))
  rw [e]
  refine h i v hi hv B' n' lr bx' h1 h2 h3 h4 h5 h6 h7 (AllP.of fun p hp => ?_) (fun k k1 k2 k3 => h9 k k1 ?_ ?_ k3)
  · rw [h8 p.1 (inK_mem (List.mem_map.2 ⟨p, hp, rfl⟩))]
    exact lkB_get (l := dL Dl i) (by rw [dL_keys]; exact hd) (p.1, p.2 i) (List.mem_map.2 ⟨p, hp, rfl⟩)
  · exact (inK_app (inK_not k2)).1
  · exact (inK_app (inK_not k2)).2
theorem runs_rangeL (hB : Outer B) (hg : lko l g = some gv) (hgv : gv = .fn f caps ∨ (gv = .sc (.func (.func f) #[] #[]) ∧ caps = [])) (hf : P.funcs[f]? = some fnn) (hname : (fnn.name == "runtime.NumGoroutine") = false) (hbody : fnn.body.isSome = true)
    (hI : DoesL P f caps xs El pre) (hPr : AllP (fun p => p.1 < n ∧ p.1 ≠ kl ∧ AllP (fun q => p.1 ≠ q) (Dl.map (·.1)) ∧ AllP (fun q => p.1 ≠ q) (El.map (·.1)) ∧ bx p.1 = p.2) pre) (hkl : bx kl = .dead) (hkn : kl < n) (hm : m ≤ xs.length) (hbk : brk = true → 1 ≤ m ∧ ∃ c, jmp ex = some c) (hnb : brk = false → m = xs.length ∧ ex = .normal) (hps : ∀ v ∈ xs, v.length = ps.size) (hpN : (ps.toList.all fun p => Nat.blt p N) = true)
    (hdk : DistK (Dl.map (·.1))) (hDk : AllP (fun p => p.1 < n ∧ p.1 ≠ kl ∧ AllP (fun k => p.1 ≠ k) (El.map (·.1)) ∧ bx p.1 = p.2 0) Dl) (hEk : AllP (fun p => p.1 < n ∧ p.1 ≠ kl ∧ bx p.1 = p.2.1) El) (hσ : ∀ i, AllP (fun p => BdB n (p.2 i)) Dl) (hEb : AllP (fun p => BdB n (p.2.2 m brk)) El)
    (hro : RoundsL' P B N n l bx ps assign body xs Dl (Dl.map (·.1) ++ El.map (·.1)) kl m brk ex) (hQ : ∀ bb bx2, bx2 = upd (updL (dL Dl m) (updL (eM El m brk) bx)) kl bb → Q ex ⟨mk l, n, bx2⟩) : Runs P B N (.rangeFunc g ps assign body) ⟨mk l, n, bx⟩ Q := by
  have hI' : DoesI P f caps xs (inK (El.map (·.1))) (lkB (eL El)) (fun m b => lkB (eM El m b)) pre := hI
  have hPr' : ∀ p ∈ pre, p.1 < n ∧ p.1 ≠ kl ∧ inK (Dl.map (·.1)) p.1 = false ∧ inK (El.map (·.1)) p.1 = false ∧ bx p.1 = p.2 := fun p hp => by
    obtain ⟨q1, q2, q3, q4, q5⟩ := hPr.mem p hp
    exact ⟨q1, q2, inK_not q3, inK_not q4, q5⟩
  refine runs_range (xs := xs) (Dc := inK (Dl.map (·.1))) (E := inK (El.map (·.1))) (e0 := lkB (eL El)) (eF := fun m b => lkB (eM El m b)) (σ := fun i => lkB (dL Dl i)) hB hg hgv hf hname hbody hI' hPr' hkl hkn hm hbk hnb hps (fun p hp => ?_) (fun k hk => ?_) (fun k hk => ?_) (fun i _ k hk => ?_) (fun k hk => ?_) (roundsL hdk hro) (fun bb => hQ bb _ ?_)
  · have := List.all_eq_true.1 hpN p hp
    exact Nat.blt_eq.mp this
  · have h0 : AllP (fun q : Nat × Box => q.1 < n ∧ q.1 ≠ kl ∧ AllP (fun k => q.1 ≠ k) (El.map (·.1)) ∧ bx q.1 = q.2) (dL Dl 0) := AllP.map hDk
    have hk' : inK ((dL Dl 0).map (·.1)) k = true := by rw [dL_keys]; exact hk
    have := lkB_all (p := fun k b => k < n ∧ k ≠ kl ∧ AllP (fun j => k ≠ j) (El.map (·.1)) ∧ bx k = b) h0 hk'
    exact ⟨this.1, this.2.1, inK_not this.2.2.1, this.2.2.2⟩
  · have h0 : AllP (fun q : Nat × Box => q.1 < n ∧ q.1 ≠ kl ∧ bx q.1 = q.2) (eL El) := AllP.map hEk
    have hk' : inK ((eL El).map (·.1)) k = true := by rw [eL_keys]; exact hk
    exact lkB_all (p := fun k b => k < n ∧ k ≠ kl ∧ bx k = b) h0 hk'
  · have h0 : AllP (fun q : Nat × Box => BdB n q.2) (dL Dl i) := AllP.map (hσ i)
    have hk' : inK ((dL Dl i).map (·.1)) k = true := by rw [dL_keys]; exact hk
    exact lkB_all (p := fun k b => BdB n b) h0 hk'
  · have h0 : AllP (fun q : Nat × Box => BdB n q.2) (eM El m brk) := AllP.map hEb
    have hk' : inK ((eM El m brk).map (·.1)) k = true := by rw [eM_keys]; exact hk
    exact lkB_all (p := fun k b => BdB n b) h0 hk'
  · congr 1
    rw [← ov_updL, dL_keys, ← ov_updL, eM_keys]
end
/-! ### Inside an iterator -/
theorem ovYJ {D : Nat → Bool} {σ : Nat → Nat → Box} {i J k : Nat} {Y : Nat → Box} (h : D k = true) (e : i = J) : ov D (σ i) Y k = σ J k := by subst e; exact ovY h rfl
theorem ovT {D : Nat → Bool} {σ : Nat → Nat → Box} {J k : Nat} {c : Nat → Box} {x : Box} (h1 : D k = true → x = σ J k) (h2 : D k = false → x = c k) : x = ov D (σ J) c k := by
  cases hd : D k with
  | true => rw [h1 hd]; exact (ovY hd rfl).symm
  | false => rw [h2 hd]; exact (ovN hd rfl).symm
theorem beq_m {m j : Nat} {brk : Bool} (h : (!(brk && Nat.beq (j + 1) m)) = true) (h1 : j < m) : j + 1 ≤ m ∧ (brk = true → j + 1 < m) := by
  refine ⟨h1, fun hb => ?_⟩
  subst hb
  cases hq : Nat.beq (j + 1) m with
  | true => rw [hq] at h; cases h
  | false =>
    have : j + 1 ≠ m := fun e => by rw [e, Nat.beq_refl] at hq; cases hq
    omega
theorem beq_s {m j : Nat} {brk : Bool} (h : (!(brk && Nat.beq (j + 1) m)) = false) : brk = true ∧ j + 1 = m := by
  cases brk with
  | false => cases h
  | true =>
    cases hq : Nat.beq (j + 1) m with
    | true => exact ⟨rfl, Nat.eq_of_beq_eq_true hq⟩
    | false => rw [hq] at h; cases h
theorem drop_cons {α : Type} {xs : List α} {j : Nat} {v : α} {t : List α} (h : xs.drop j = v :: t) : xs[j]? = some v ∧ xs.drop (j + 1) = t ∧ j < xs.length := by
  have hl : j < xs.length := by
    rcases Nat.lt_or_ge j xs.length with h1 | h1
    · exact h1
    · rw [List.drop_eq_nil_of_le h1] at h; cases h
  rw [List.drop_eq_getElem_cons hl] at h
  cases h
  exact ⟨List.getElem?_eq_getElem hl, rfl, hl⟩
theorem drop_nil {α : Type} {xs : List α} {j : Nat} (h : xs.drop j = []) : xs.length ≤ j := List.drop_eq_nil_iff.1 h
/-- An iterator off its body, its own entries told by a list. -/
theorem doesL_mk {P : Program} {f : FuncId} {fn : Func} {c : Code} {caps : List V} {xs : List (List V)} {El : List (Nat × Box × (Nat → Bool → Box))} {lt : List (Nat × V)} {pre : List (Nat × Box)} (r : Nat) (hf : P.funcs[f]? = some fn) (hb : fn.body = some c) (hl : Nat.ble (caps.length + 1) fn.ntmps = true) (hres : fn.results = #[]) (hdE : DistK (El.map (·.1)))
    (hlt : ∀ ll, (((V.sc (.func (.yield ll) #[] #[]) :: caps).zipIdx).map fun p => (p.2, p.1)) = (0, V.sc (.func (.yield ll) #[] #[])) :: lt)
    (h : ∀ (Xb : Ctx) (ll n0 : Nat) (D : Nat → Bool) (σ : Nat → Nat → Box) (m : Nat) (brk : Bool), m ≤ xs.length → (brk = true → 1 ≤ m) → (brk = false → m = xs.length) → (∀ k, D k = true → AllP (fun q => k ≠ q) (El.map (·.1))) →
      (∀ i v, i < m → xs[i]? = some v → DoesY P Xb ll n0 v D (inK (El.map (·.1))) (σ i) (σ (i + 1)) (!(brk && Nat.beq (i + 1) m))) →
      ∀ n B bx, n0 ≤ n → Outer B → Ext Xb B.c → (∀ k, n ≤ k → bx k = .dead) → (∀ k, D k = true → k < n) → (∀ k, k < n → bx k = ov D (σ 0) bx k) → AllP (fun p => p.1 < n ∧ D p.1 = false ∧ bx p.1 = p.2.1) El → AllP (fun p => p.1 < n0 ∧ D p.1 = false ∧ AllP (fun q => p.1 ≠ q) (El.map (·.1)) ∧ bx p.1 = p.2) pre → (∀ k, k < n0 → D k = false → inK (El.map (·.1)) k = false → bx k = Xb.bx k) → bdL n caps → (∀ k, BdB n (bx k)) → (∀ i, i ≤ m → ∀ k, D k = true → BdB n (σ i k)) →
        Runs P B fn.ntmps c ⟨mk ((0, V.sc (.func (.yield ll) #[] #[])) :: lt), n + r, bx⟩ (fun e s => (e = .normal ∨ e = .ret) ∧ ∀ k, k < n → BoxLe (s.bx k) (ov D (σ m) (updL (eM El m brk) bx) k))) : DoesL P f caps xs El pre := by
  refine doesI_mk r hf hb hl hres (fun Xb ll n0 D σ m brk h1 h2 h3 h4 hpr hY n B bx k1 k2 k3 k4 k5 k6 k7 k8 k9 k10 => ?_)
  rw [hlt ll]
  have e : ∀ k, ov D (σ m) (ov (inK (El.map (·.1))) (lkB (eM El m brk)) bx) k = ov D (σ m) (updL (eM El m brk) bx) k := fun k => by rw [← ov_updL, eM_keys]
  simp only [e]
  refine h Xb ll n0 D σ m brk h1 h2 h3 (fun k hk => inK_no (h4 k hk)) hY n B bx k1 k2 k3 k4 (fun k hk => (k5 k hk).1) (fun k _ => ovT (fun hk => (k5 k hk).2) fun _ => rfl) (AllP.of fun p hp => ?_) (AllP.of fun p hp => by
    obtain ⟨q1, q2, q3, q4⟩ := hpr p hp
    exact ⟨q1, q2, inK_no q3, (k7 _ q1 q2 q3).trans q4⟩) k7 k8 k9 k10
  have hp1 : inK (El.map (·.1)) p.1 = true := inK_mem (List.mem_map.2 ⟨p, hp, rfl⟩)
  refine ⟨(k6 _ hp1).1, ?_, ?_⟩
  · cases hd : D p.1 with
    | false => rfl
    | true => rw [h4 _ hd] at hp1; cases hp1
  · rw [(k6 _ hp1).2]
    exact lkB_get (l := eL El) (by rw [eL_keys]; exact hdE) (p.1, p.2.1) (List.mem_map.2 ⟨p, hp, rfl⟩)
theorem bl_ov {D : Nat → Bool} {g f : Nat → Box} {k : Nat} {c : Box} (h : D k = false) (h2 : BoxLe c (f k)) : BoxLe c (ov D g f k) := by rw [show ov D g f k = f k from ovN h rfl]; exact h2
theorem map_get {α β : Type} {f : α → β} {l : List α} {i : Nat} {v : β} (h : (l.map f)[i]? = some v) : ∃ t, l[i]? = some t ∧ f t = v := by
  rw [List.getElem?_map] at h
  cases hq : l[i]? with
  | none => rw [hq] at h; cases h
  | some t => rw [hq] at h; exact ⟨t, rfl, by simpa using h⟩
/-- That so many elements were handed over, and that none is asked for in vain. -/
def OkJ (brk : Bool) (m j : Nat) : Prop := j ≤ m ∧ (brk = true → j < m)
theorem OkJ.zero {brk : Bool} {m : Nat} (h : brk = true → 1 ≤ m) : OkJ brk m 0 := ⟨Nat.zero_le _, fun hb => h hb⟩
theorem OkJ.next {brk : Bool} {m j : Nat} (h : (!(brk && Nat.beq (j + 1) m)) = true) (h1 : j < m) : OkJ brk m (j + 1) := beq_m h h1
theorem OkJ.lt {brk : Bool} {m j N : Nat} (h : OkJ brk m j) (h3 : brk = false → m = N) (hj : j < N) : j < m := by
  cases brk with
  | true => exact h.2 rfl
  | false => rw [h3 rfl]; exact hj
theorem OkJ.fin {brk : Bool} {m j N : Nat} (h : OkJ brk m j) (h1 : m ≤ N) (hj : N ≤ j) : j = m := by
  have := h.1; omega
section
variable {P : Program} {o : Oper} {t : Nat → V}
/-- A function value compared with nil. -/
theorem step_eq_nilf {op : BinOp} {ty ty2 : TypeId} {x y : Operand} {v : V} {b : Bool} {ua ub uc} (ho : o.op = .binOp op ty x y ty2) (hx : ev t x = v) (hy : ev t y = .sc .nilFunc) (hu : P.underlying ty = some (.func ua ub uc))
    (hb : ∃ q, (((∃ f c, v = .fn f c) ∨ ∃ f c d, v = .sc (.func f c d)) ∧ q = false ∨ v = .sc .nilFunc ∧ q = true) ∧ ((op = .eql ∧ b = q) ∨ (op = .neq ∧ b = !q))) : StepOK P o t [] [] (.sc (.bool b)) := by
  refine step_value fun n X ρ hR hop hpre => ?_
  have g1 := hop x (by simp [ho, Op.operands])
  have g2 := hop y (by simp [ho, Op.operands])
  rw [hx] at g1; rw [hy] at g2
  simp only [VRep] at g2
  obtain ⟨q, hq, hb⟩ := hb
  have heq : ∀ d, (Op.equalIn (d + 1) ty (ρ x) .nilFunc).run P X.w = .ok q X.w := by
    intro d
    rcases hq with ⟨⟨f, c, rfl⟩ | ⟨f, c, d, rfl⟩, rfl⟩ | ⟨rfl, rfl⟩
    · simp only [VRep] at g1
      obtain ⟨us, h1, _⟩ := g1
      rw [h1]
      simp only [Op.equalIn, Sem.run_bind, run_under hu, Result.andThen_ok]
      rfl
    · simp only [VRep] at g1
      rw [g1]
      simp only [Op.equalIn, Sem.run_bind, run_under hu, Result.andThen_ok]
      rfl
    · simp only [VRep] at g1
      rw [g1]
      simp only [Op.equalIn, Sem.run_bind, run_under hu, Result.andThen_ok]
      rfl
  have heq := heq 9999
  refine ⟨.bool b, exec_run (exec_binOp ho) ?_, by simp only [VRep]⟩
  rw [g2]
  rcases hb with ⟨rfl, rfl⟩ | ⟨rfl, rfl⟩
  · have e1 : (eqGuard .eql ty x y (ρ x) .nilFunc) = pure () := by cases ρ x <;> rfl
    have e2 : (binOp .eql ty (ρ x) .nilFunc) = (do pure (.bool (← Op.equal ty (ρ x) .nilFunc))) := by cases ρ x <;> rfl
    rw [Sem.run_bind, e1, e2]
    simp only [Result.andThen_ok, Sem.run_bind, Sem.run_pure, Op.equal, Op.maxDepth]
    erw [heq]
    rfl
  · have e1 : (eqGuard .neq ty x y (ρ x) .nilFunc) = pure () := by cases ρ x <;> rfl
    have e2 : (binOp .neq ty (ρ x) .nilFunc) = (do pure (.bool (!(← Op.equal ty (ρ x) .nilFunc)))) := by cases ρ x <;> rfl
    rw [Sem.run_bind, e1, e2]
    simp only [Result.andThen_ok, Sem.run_bind, Sem.run_pure, Op.equal, Op.maxDepth]
    erw [heq]
    rfl
end
section
variable {P : Program} {B : Bas} {N n : Nat} {bx : Nat → Box} {Q : Exit → S → Prop} {ops : Array Oper} {L : List Oper} {l : List (Nat × V)} {o : Oper}
end
section
variable {P : Program} {B : Bas} {N n : Nat} {bx : Nat → Box} {Q : Exit → S → Prop} {ops : Array Oper} {L : List Oper} {l : List (Nat × V)}
end
end Go.Vm

