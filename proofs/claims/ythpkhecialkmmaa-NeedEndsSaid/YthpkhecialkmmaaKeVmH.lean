/- A logic of values over the model. Part H: regions that draw their order. -/
import Derived.Test.YthpkhecialkmmaaKeVmG
set_option linter.unusedVariables false
set_option linter.unusedSimpArgs false
namespace Go.Vm
structure Ac where
  pre : List (Nat × Box)
  up : List (Nat × Box)
  val : V
/-- An operation of a region, at the state ahead of it: its guard, and what it comes to. -/
def GoodAt (P : Program) (ops : Array Oper) (o : Oper) (t : Nat → V) (c : Ac) : Prop :=
  (o.guard = none ∧ StepOK P o t c.pre c.up c.val) ∨
  (∃ j w g d, o.guard = some (j, w) ∧ ops[j]? = some g ∧ g.dst = some d ∧ ((t d = .sc (.bool w) ∧ StepOK P o t c.pre c.up c.val) ∨ (NoGuard (t d) w ∧ c.pre = [] ∧ c.up = [] ∧ c.val = .sc undef)))
def ActsOK (P : Program) (ops : Array Oper) (n : Nat) : List Oper → (Nat → V) → (Nat → Box) → List Ac → Prop
  | [], _, _, [] => True
  | o :: l, t, bx, c :: cs => GoodAt P ops o t c ∧ (∀ p ∈ c.pre, bx p.1 = p.2) ∧ (∀ p ∈ c.up, p.1 < n) ∧ ActsOK P ops n l (putS t o.dst c.val) (upds bx c.up) cs
  | _, _, _, _ => False
/-- The state behind those of the operations that are in D. -/
def tsub (D : Nat → Bool) : Nat → List Oper → List Ac → (Nat → V) → (Nat → V)
  | i, o :: l, c :: cs, t => tsub D (i + 1) l cs (if D i then putS t o.dst c.val else t)
  | _, _, _, t => t
def bsub (D : Nat → Bool) : Nat → List Ac → (Nat → Box) → (Nat → Box)
  | i, c :: cs, bx => bsub D (i + 1) cs (if D i then upds bx c.up else bx)
  | _, [], bx => bx
theorem putS_ne {t : Nat → V} {d : Option Tmp} {v : V} {x : Nat} (h : d ≠ some x) : putS t d v x = t x := by
  cases d with
  | none => rfl
  | some d => exact upd_ne _ _ _ _ (fun e => h (by rw [e]))
theorem putS_eq {t : Nat → V} {d : Option Tmp} {v : V} {x : Nat} (h : d = some x) : putS t d v x = v := by subst h; exact upd_eq _ _ _
theorem tsub_congr (D E : Nat → Bool) (x : Nat) : ∀ (l : List Oper) (cs : List Ac) (i : Nat) (t t' : Nat → V), t x = t' x → (∀ j o, l[j]? = some o → o.dst = some x → D (i + j) = E (i + j)) → tsub D i l cs t x = tsub E i l cs t' x
  | [], cs, i, t, t', h, _ => by cases cs <;> exact h
  | o :: l, [], i, t, t', h, _ => h
  | o :: l, c :: cs, i, t, t', h, hd => by
    simp only [tsub]
    refine tsub_congr D E x l cs (i + 1) _ _ ?_ (fun j o' hj ho => by have := hd (j + 1) o' (by simpa using hj) ho; rwa [show i + 1 + j = i + (j + 1) by omega])
    by_cases ho : o.dst = some x
    · have := hd 0 o rfl ho
      simp only [Nat.add_zero] at this
      rw [this]
      split
      · rw [putS_eq ho, putS_eq ho]
      · exact h
    · split <;> split <;> simp only [putS_ne ho, h]
theorem bsub_congr (D E : Nat → Bool) (k : Nat) : ∀ (cs : List Ac) (i : Nat) (b b' : Nat → Box), b k = b' k → (∀ (j : Nat) c, cs[j]? = some c → (∃ p ∈ c.up, p.1 = k) → D (i + j) = E (i + j)) → bsub D i cs b k = bsub E i cs b' k
  | [], i, b, b', h, _ => h
  | c :: cs, i, b, b', h, hd => by
    simp only [bsub]
    refine bsub_congr D E k cs (i + 1) _ _ ?_ (fun j c' hj ho => by have := hd (j + 1) c' (by simpa using hj) ho; rwa [show i + 1 + j = i + (j + 1) by omega])
    by_cases ho : ∃ p ∈ c.up, p.1 = k
    · have := hd 0 c rfl ho
      simp only [Nat.add_zero] at this
      rw [this]
      split
      · exact upds_same c.up b b' k h
      · exact h
    · have hn : ∀ p ∈ c.up, p.1 ≠ k := fun p hp e => ho ⟨p, hp, e⟩
      split <;> split <;> simp only [upds_not _ _ _ hn, h]
where
  upds_same : ∀ (l : List (Nat × Box)) (f g : Nat → Box) (k : Nat), f k = g k → upds f l k = upds g l k
    | [], f, g, k, h => h
    | (j, v) :: l, f, g, k, h => by
      simp only [upds]
      refine upds_same l _ _ k ?_
      by_cases e : k = j
      · subst e; rw [upd_eq, upd_eq]
      · rw [upd_ne _ _ _ _ e, upd_ne _ _ _ _ e]; exact h
/-- Is there a way of edges from i back to j? -/
def reach (ops : Array Oper) : Nat → Nat → Nat → Bool
  | 0, _, _ => false
  | f + 1, i, j => ((ops[i]?).map fun o => (o.after.any fun e => Region.binds .any e && e.on == j) || (o.after.any fun e => Region.binds .any e && (Nat.blt j e.on && reach ops f e.on j))).getD false
/-- What the text of a region must fulfil. -/
def depOK (ops : Array Oper) : Bool :=
  ops.toList.zipIdx.all fun (o, i) =>
    (o.after.all fun e => !Region.binds .any e || decide (e.on < i)) &&
    (ops.toList.zipIdx.all fun (o', j) => i == j || ((match o'.dst with
      | none => true
      | some d => (!(o.looksAt ops).contains d || (if j < i then reach ops ops.size i j else reach ops ops.size j i)) && o.dst != some d)))
structure DepOK (ops : Array Oper) : Prop where
  back : ∀ (i : Nat) (o : Oper), ops[i]? = some o → ∀ e ∈ o.after, Region.binds .any e = true → e.on < i
  look : ∀ (i : Nat) (o : Oper) (j : Nat) (o' : Oper) (d : Tmp), ops[i]? = some o → ops[j]? = some o' → i ≠ j → o'.dst = some d → d ∈ o.looksAt ops → (j < i → reach ops ops.size i j = true) ∧ (i < j → reach ops ops.size j i = true)
  dst : ∀ (i : Nat) (o : Oper) (j : Nat) (o' : Oper) (d : Tmp), ops[i]? = some o → ops[j]? = some o' → i ≠ j → o'.dst = some d → o.dst ≠ some d
theorem mem_zip {ops : Array Oper} {i : Nat} {o : Oper} (h : ops[i]? = some o) : (o, i) ∈ ops.toList.zipIdx := by
  rw [List.mem_zipIdx_iff_getElem?]
  simpa using h
theorem depOK_spec {ops : Array Oper} (h : depOK ops = true) : DepOK ops := by
  unfold depOK at h
  rw [List.all_eq_true] at h
  have key : ∀ (i : Nat) (o : Oper), ops[i]? = some o → (o.after.all fun e => !Region.binds .any e || decide (e.on < i)) = true ∧ ∀ (j : Nat) (o' : Oper), ops[j]? = some o' → i ≠ j → ∀ d, o'.dst = some d → ((o.looksAt ops).contains d = true → (if j < i then reach ops ops.size i j else reach ops ops.size j i) = true) ∧ o.dst ≠ some d := by
    intro i o ho
    have := h (o, i) (mem_zip ho)
    simp only [Bool.and_eq_true, List.all_eq_true] at this
    refine ⟨this.1, fun j o' ho' hij d hd => ?_⟩
    have h2 := this.2 (o', j) (mem_zip ho')
    simp only [hd, Bool.or_eq_true, beq_iff_eq, hij, false_or, Bool.and_eq_true, Bool.not_eq_true', bne_iff_ne, ne_eq] at h2
    refine ⟨fun hc => ?_, h2.2⟩
    rcases h2.1 with h3 | h3
    · rw [hc] at h3; cases h3
    · exact h3
  refine ⟨fun i o ho e he hb => ?_, fun i o j o' d ho ho' hij hd hm => ?_, fun i o j o' d ho ho' hij hd => ((key i o ho).2 j o' ho' hij d hd).2⟩
  · have := (key i o ho).1
    rw [Array.all_eq_true_iff_forall_mem] at this
    have := this e he
    simpa [hb] using this
  · have h1 := ((key i o ho).2 j o' ho' hij d hd).1 (by simpa using hm)
    refine ⟨fun hlt => ?_, fun hlt => ?_⟩
    · rwa [if_pos hlt] at h1
    · rwa [if_neg (by omega)] at h1
theorem tsub_none (D : Nat → Bool) : ∀ (l : List Oper) (cs : List Ac) (k : Nat) (t : Nat → V), (∀ j, k ≤ j → D j = false) → tsub D k l cs t = t
  | [], cs, k, t, h => by cases cs <;> rfl
  | o :: l, [], k, t, h => rfl
  | o :: l, c :: cs, k, t, h => by
    simp only [tsub, h k (Nat.le_refl _), Bool.false_eq_true, if_false]
    exact tsub_none D l cs (k + 1) t (fun j hj => h j (by omega))
theorem bsub_none (D : Nat → Bool) : ∀ (cs : List Ac) (k : Nat) (t : Nat → Box), (∀ j, k ≤ j → D j = false) → bsub D k cs t = t
  | [], k, t, h => rfl
  | c :: cs, k, t, h => by
    simp only [bsub, h k (Nat.le_refl _), Bool.false_eq_true, if_false]
    exact bsub_none D cs (k + 1) t (fun j hj => h j (by omega))
theorem acts_get {P : Program} {ops : Array Oper} {n : Nat} : ∀ (l : List Oper) (t : Nat → V) (bx : Nat → Box) (cs : List Ac) (k i : Nat) (o : Oper), ActsOK P ops n l t bx cs → l[i]? = some o →
    ∃ c, cs[i]? = some c ∧ GoodAt P ops o (tsub (fun j => decide (j < k + i)) k l cs t) c ∧ (∀ p ∈ c.pre, bsub (fun j => decide (j < k + i)) k cs bx p.1 = p.2) ∧ ∀ p ∈ c.up, p.1 < n
  | [], t, bx, cs, k, i, o, h, hi => by simp at hi
  | o :: l, t, bx, [], k, i, o', h, hi => by simp only [ActsOK] at h
  | o :: l, t, bx, c :: cs, k, i, o', h, hi => by
    simp only [ActsOK] at h
    cases i with
    | zero =>
      simp at hi; subst hi
      refine ⟨c, rfl, ?_, ?_, h.2.2.1⟩
      · rw [tsub_none _ _ _ _ _ (fun j hj => by simp; omega)]; exact h.1
      · rw [bsub_none _ _ _ _ (fun j hj => by simp; omega)]; exact h.2.1
    | succ i =>
      obtain ⟨c', h1, h2, h3, h4⟩ := acts_get l _ _ cs (k + 1) i o' h.2.2.2 (by simpa using hi)
      refine ⟨c', by simpa using h1, ?_, ?_, h4⟩
      · simp only [tsub]
        rw [if_pos (by simp)]
        rw [show k + (i + 1) = k + 1 + i by omega]
        exact h2
      · simp only [bsub]
        rw [if_pos (by simp)]
        rw [show k + (i + 1) = k + 1 + i by omega]
        exact h3
theorem reach_in {ops : Array Oper} {D : Nat → Bool} (hcl : ∀ (j : Nat) (o : Oper), ops[j]? = some o → D j = true → ∀ e ∈ o.after, Region.binds .any e = true → D e.on = true) : ∀ (f i j : Nat), (∀ o, ops[i]? = some o → ∀ e ∈ o.after, Region.binds .any e = true → D e.on = true) → reach ops f i j = true → D j = true
  | 0, i, j, h, hr => by simp [reach] at hr
  | f + 1, i, j, h, hr => by
    simp only [reach] at hr
    cases ho : ops[i]? with
    | none => simp [ho] at hr
    | some o =>
      simp only [ho, Option.map_some, Option.getD_some, Array.any_eq_true', Bool.and_eq_true, Bool.or_eq_true, beq_iff_eq] at hr
      rcases hr with ⟨e, he, hb, hj⟩ | ⟨e, he, hb, _, hj⟩
      · exact hj ▸ h o ho e he hb
      · exact reach_in hcl f e.on j (fun o' ho' => hcl e.on o' ho' (h o ho e he hb)) hj
theorem upds_in {α : Type} : ∀ (l : List (Nat × α)) (f g : Nat → α) (k : Nat), (∃ p ∈ l, p.1 = k) → upds f l k = upds g l k
  | [], f, g, k, h => by simp at h
  | (j, v) :: l, f, g, k, h => by
    simp only [upds]
    by_cases hl : ∃ p ∈ l, p.1 = k
    · exact upds_in l _ _ k hl
    · have hn : ∀ p ∈ l, p.1 ≠ k := fun p hp e => hl ⟨p, hp, e⟩
      rw [upds_not _ _ _ hn, upds_not _ _ _ hn]
      obtain ⟨p, hp, rfl⟩ := h
      rcases List.mem_cons.1 hp with rfl | hp
      · rw [upd_eq, upd_eq]
      · exact absurd rfl (hn p hp)
theorem tsub_at (E : Nat → Bool) (x : Nat) : ∀ (l : List Oper) (cs : List Ac) (k i : Nat) (t : Nat → V) (o : Oper) (c : Ac), l[i]? = some o → cs[i]? = some c → E (k + i) = true → o.dst = some x → (∀ (j : Nat) o', l[j]? = some o' → j ≠ i → o'.dst ≠ some x) → tsub E k l cs t x = c.val
  | [], cs, k, i, t, o, c, h, _, _, _, _ => by simp at h
  | o :: l, [], k, i, t, o', c', h, hc, _, _, _ => by simp at hc
  | o :: l, c :: cs, k, i, t, o', c', h, hc, hE, hd, hn => by
    simp only [tsub]
    cases i with
    | zero =>
      simp at h hc; subst h; subst hc
      simp only [Nat.add_zero] at hE
      rw [hE, if_pos rfl]
      have : ∀ (l' : List Oper) (cs' : List Ac) (k' : Nat) (t' : Nat → V), (∀ (j : Nat) o', l'[j]? = some o' → o'.dst ≠ some x) → tsub E k' l' cs' t' x = t' x := by
        intro l'
        induction l' with
        | nil => intro cs' k' t' _; cases cs' <;> rfl
        | cons o2 l2 ih =>
          intro cs' k' t' hh
          cases cs' with
          | nil => rfl
          | cons c2 cs2 =>
            simp only [tsub]
            rw [ih _ _ _ (fun j o' hj => hh (j + 1) o' (by simpa using hj))]
            split
            · exact putS_ne (hh 0 o2 rfl)
            · rfl
      rw [this _ _ _ _ (fun j o' hj => hn (j + 1) o' (by simpa using hj) (by omega)), putS_eq hd]
    | succ i =>
      exact tsub_at E x l cs (k + 1) i _ o' c' (by simpa using h) (by simpa using hc) (by rw [show k + 1 + i = k + (i + 1) by omega]; exact hE) hd (fun j o2 hj hne => hn (j + 1) o2 (by simpa using hj) (by omega))
theorem bsub_at (E : Nat → Bool) (x : Nat) (g : Nat → Box) : ∀ (cs : List Ac) (k i : Nat) (b : Nat → Box) (c : Ac), cs[i]? = some c → E (k + i) = true → (∃ p ∈ c.up, p.1 = x) → (∀ (j : Nat) c', cs[j]? = some c' → i < j → E (k + j) = true → ¬ ∃ p ∈ c'.up, p.1 = x) → bsub E k cs b x = upds g c.up x
  | [], k, i, b, c, h, _, _, _ => by simp at h
  | c :: cs, k, i, b, c', h, hE, hx, hn => by
    simp only [bsub]
    cases i with
    | zero =>
      simp at h; subst h
      simp only [Nat.add_zero] at hE
      rw [hE, if_pos rfl]
      have : ∀ (cs' : List Ac) (k' : Nat) (b' : Nat → Box), (∀ (j : Nat) c', cs'[j]? = some c' → E (k' + j) = true → ¬ ∃ p ∈ c'.up, p.1 = x) → bsub E k' cs' b' x = b' x := by
        intro cs'
        induction cs' with
        | nil => intro k' b' _; rfl
        | cons c2 cs2 ih =>
          intro k' b' hh
          simp only [bsub]
          rw [ih _ _ (fun j c' hj hE' => hh (j + 1) c' (by simpa using hj) (by rw [show k' + (j + 1) = k' + 1 + j by omega]; exact hE'))]
          split
          · rename_i hk
            have := hh 0 c2 rfl (by simpa using hk)
            exact upds_not _ _ _ (fun p hp e => this ⟨p, hp, e⟩)
          · rfl
      rw [this _ _ _ (fun j c' hj hE' => hn (j + 1) c' (by simpa using hj) (by omega) (by rw [show k + (j + 1) = k + 1 + j by omega]; exact hE'))]
      exact upds_in _ _ _ _ hx
    | succ i =>
      exact bsub_at E x g cs (k + 1) i _ c' (by simpa using h) (by rw [show k + 1 + i = k + (i + 1) by omega]; exact hE) hx (fun j c2 hj hlt hE' => hn (j + 1) c2 (by simpa using hj) (by omega) (by rw [show k + (j + 1) = k + 1 + j by omega]; exact hE'))
/-- Two operations that no edge orders touch nothing together. -/
def Apart (c c' : Ac) : Prop := (∀ p ∈ c.up, (∀ q ∈ c'.pre, p.1 ≠ q.1) ∧ ∀ q ∈ c'.up, p.1 ≠ q.1) ∧ ∀ p ∈ c'.up, ∀ q ∈ c.pre, p.1 ≠ q.1
theorem acts_len {P : Program} {ops : Array Oper} {n : Nat} : ∀ (l : List Oper) (t : Nat → V) (bx : Nat → Box) (cs : List Ac), ActsOK P ops n l t bx cs → cs.length = l.length
  | [], t, bx, [], h => rfl
  | [], t, bx, c :: cs, h => by simp only [ActsOK] at h
  | o :: l, t, bx, [], h => by simp only [ActsOK] at h
  | o :: l, t, bx, c :: cs, h => by simp only [ActsOK] at h; simp [acts_len l _ _ cs h.2.2.2]
theorem set_getD {listed : Array Bool} {i j : Nat} (hi : i < listed.size) : (listed.setIfInBounds i true).getD j false = if j = i then true else listed.getD j false := by
  by_cases h : j = i
  · subst h; simp [hi]
  · rw [getD_set_ne false (Ne.symm h), if_neg h]
/-- A region that draws its order, where what no edge orders touches nothing together. -/
theorem runs_region_draw {P : Program} {B : Bas} {N : Nat} {s : S} {Q : Exit → S → Prop} {id : Nat} {ops : Array Oper} (cs : List Ac) (hm : P.follows .mixedOrders = true) (hdep : depOK ops = true) (hdst : ops.toList.all (fun o => okDst N o.dst) = true)
    (h : ActsOK P ops s.n ops.toList s.t s.bx cs) (hap : ∀ (i j : Nat) (c c' : Ac), cs[i]? = some c → cs[j]? = some c' → i < j → reach ops ops.size j i = true ∨ Apart c c')
    (hQ : Q .normal ⟨tsub (fun _ => true) 0 ops.toList cs s.t, s.n, bsub (fun _ => true) 0 cs s.bx⟩) : Runs P B N (.region id ops true) s Q := by
  intro X0 a0 hs0
  have hdep := depOK_spec hdep
  have hlen := acts_len _ _ _ _ h
  refine wpIn_region_any hm ?_
  -- what holds where the operations of 'listed' have run
  let Inv : Array Bool → Act → World → Prop := fun listed a w => listed.size = ops.size ∧ (∀ (j : Nat) (o : Oper), ops[j]? = some o → listed.getD j false = true → ∀ e ∈ o.after, Region.binds .any e = true → listed.getD e.on false = true) ∧
    ∃ X, X.w = w ∧ St B N ⟨tsub (fun j => listed.getD j false) 0 ops.toList cs s.t, s.n, bsub (fun j => listed.getD j false) 0 cs s.bx⟩ X a
  have hdone : ∀ listed a w, Inv listed a w → Region.ready .any ops listed = [] → post B N Q .normal a w := by
    intro listed a w ⟨hsz, hcl, X, hw, hst⟩ hr
    have hall : ∀ j, j < ops.size → listed.getD j false = true := by
      intro j
      induction j using Nat.strongRecOn with
      | _ j ih =>
        intro hj
        cases hq : listed.getD j false with
        | true => rfl
        | false =>
          have hj1 : j < listed.size := by omega
          have hjt : listed.getD j true = false := by
            have h1 : listed.getD j false = listed[j] := by simp [hj1]
            have h2 : listed.getD j true = listed[j] := by simp [hj1]
            rw [h2, ← h1]; exact hq
          have : j ∈ Region.ready .any ops listed := mem_ready.2 ⟨hjt, ops[j], by simp [hj], fun e he hb => by
            have hlt := hdep.back j ops[j] (by simp [hj]) e he hb
            exact ih e.on hlt (by omega)⟩
          rw [hr] at this
          cases this
    refine .inl ⟨_, X, hQ, hw, ?_⟩
    have e1 : tsub (fun j => listed.getD j false) 0 ops.toList cs s.t = tsub (fun _ => true) 0 ops.toList cs s.t := by
      funext x
      refine tsub_congr _ _ x _ _ _ _ _ rfl (fun j o hj _ => ?_)
      have : j < ops.size := by have := (List.getElem?_eq_some_iff.1 hj).1; simpa using this
      rw [Nat.zero_add]; exact hall j this
    have e2 : bsub (fun j => listed.getD j false) 0 cs s.bx = bsub (fun _ => true) 0 cs s.bx := by
      funext k
      refine bsub_congr _ _ k _ _ _ _ rfl (fun j c hj _ => ?_)
      have h1 := (List.getElem?_eq_some_iff.1 hj).1
      have : j < ops.size := by rw [hlen] at h1; simpa using h1
      rw [Nat.zero_add]; exact hall j this
    rw [e1, e2] at hst
    exact hst
  have hstep : ∀ listed a w i, Inv listed a w → i ∈ Region.ready .any ops listed → wpOpIn (fen B.R) 0 P ops (post B N Q) i (Inv (listed.setIfInBounds i true)) a w := by
    rintro listed a w i ⟨hsz, hcl, X, rfl, hst⟩ hi
    obtain ⟨hi0, o, ho, hpred⟩ := mem_ready.1 hi
    have hilt : i < ops.size := (Array.getElem?_eq_some_iff.1 ho).1
    have hil : i < listed.size := by omega
    have hif : listed.getD i false = false := by
      have h1 : listed.getD i false = listed[i] := by simp [hil]
      have h2 : listed.getD i true = listed[i] := by simp [hil]
      rw [h1, ← h2]; exact hi0
    have hol : ops.toList[i]? = some o := by simpa using ho
    obtain ⟨c, hc, hgood, hpre, hup⟩ := acts_get ops.toList s.t s.bx cs 0 i o h hol
    have hre : ∀ j, reach ops ops.size i j = true → listed.getD j false = true := fun j hr => reach_in (D := fun j => listed.getD j false) hcl ops.size i j (fun o' ho' e he hb => by rw [ho] at ho'; cases ho'; exact hpred e he hb) hr
    have hre2 : ∀ j, reach ops ops.size j i = true → listed.getD j false = false := by
      intro j hr
      cases hq : listed.getD j false with
      | false => rfl
      | true =>
        have := reach_in (D := fun j => listed.getD j false) hcl ops.size j i (fun o' ho' => hcl j o' ho' hq) hr
        rw [hif] at this; cases this
    -- operands
    have hlook : ∀ d, d ∈ o.looksAt ops → tsub (fun j => decide (j < 0 + i)) 0 ops.toList cs s.t d = tsub (fun j => listed.getD j false) 0 ops.toList cs s.t d := by
      intro d hd
      refine tsub_congr _ _ d _ _ _ _ _ rfl (fun j o' hj ho' => ?_)
      rw [Nat.zero_add, Nat.zero_add]
      by_cases hji : j = i
      · subst hji; simp only [Nat.lt_irrefl, decide_false]; exact hif.symm
      · have hj' : ops[j]? = some o' := by simpa using hj
        obtain ⟨l1, l2⟩ := hdep.look i o j o' d ho hj' (Ne.symm hji) ho' hd
        by_cases hlt : j < i
        · rw [hre j (l1 hlt)]; simp [hlt]
        · rw [hre2 j (l2 (by omega))]; simp; omega
    have hop : ∀ x ∈ o.op.operands, VRep X (ev (tsub (fun j => decide (j < 0 + i)) 0 ops.toList cs s.t) x) (a.eval x) := by
      intro x hx
      have hv := ev_rep hst.t x
      cases x with
      | tmp d =>
        have hd : d ∈ o.looksAt ops := by
          unfold Oper.looksAt
          refine List.mem_append_left _ ?_
          rw [List.mem_filterMap]
          exact ⟨.tmp d, by simpa using hx, rfl⟩
        simp only [ev] at hv ⊢
        rw [hlook d hd]; exact hv
      | const v => exact hv
      | func f => exact hv
      | global g => exact hv
    -- boxes
    have hord : ∀ (j : Nat) (c' : Ac), cs[j]? = some c' → j ≠ i → (∃ p ∈ c'.up, (∃ q ∈ c.pre, p.1 = q.1) ∨ ∃ q ∈ c.up, p.1 = q.1) → (j < i → listed.getD j false = true) ∧ (i < j → listed.getD j false = false) := by
      intro j c' hj hne ⟨p, hp, hpq⟩
      refine ⟨fun hlt => ?_, fun hlt => ?_⟩
      · rcases hap j i c' c hj hc hlt with hr | ⟨h1, h2⟩
        · exact hre j hr
        · rcases hpq with ⟨q, hq, e⟩ | ⟨q, hq, e⟩
          · exact absurd e ((h1 p hp).1 q hq)
          · exact absurd e ((h1 p hp).2 q hq)
      · rcases hap i j c c' hc hj hlt with hr | ⟨h1, h2⟩
        · exact hre2 j hr
        · rcases hpq with ⟨q, hq, e⟩ | ⟨q, hq, e⟩
          · exact absurd e (h2 p hp q hq)
          · exact absurd e.symm ((h1 q hq).2 p hp)
    have hpre' : ∀ p ∈ c.pre, X.bx p.1 = p.2 := by
      intro p hp
      rw [hst.bx, ← hpre p hp]
      refine (bsub_congr _ _ p.1 _ _ _ _ rfl (fun j c' hj hu => ?_)).symm
      rw [Nat.zero_add, Nat.zero_add]
      obtain ⟨q, hq, e⟩ := hu
      by_cases hji : j = i
      · subst hji; simp only [Nat.lt_irrefl, decide_false]; exact hif.symm
      · obtain ⟨l1, l2⟩ := hord j c' hj hji ⟨q, hq, .inl ⟨p, hp, e⟩⟩
        by_cases hlt : j < i
        · rw [l1 hlt]; simp [hlt]
        · rw [l2 (by omega)]; simp; omega
    -- what is behind it
    have hdN : okDst N o.dst = true := by
      rw [List.all_eq_true] at hdst
      exact hdst o (by have := Array.mem_of_getElem? ho; simpa using this)
    have hfin : ∀ a' w', (∃ X', X'.w = w' ∧ St B N ⟨putS (tsub (fun j => listed.getD j false) 0 ops.toList cs s.t) o.dst c.val, s.n, upds (bsub (fun j => listed.getD j false) 0 cs s.bx) c.up⟩ X' a') → Inv (listed.setIfInBounds i true) a' w' := by
      rintro a' w' ⟨X', hw', hst'⟩
      refine ⟨by simpa using hsz, fun j o' ho' hj e he hb => ?_, X', hw', ?_⟩
      · rw [set_getD hil] at hj ⊢
        by_cases hji : j = i
        · subst hji
          rw [ho] at ho'; cases ho'
          have := hpred e he hb
          split
          · rfl
          · exact this
        · rw [if_neg hji] at hj
          have := hcl j o' ho' hj e he hb
          split
          · rfl
          · exact this
      · have e1 : putS (tsub (fun j => listed.getD j false) 0 ops.toList cs s.t) o.dst c.val = tsub (fun j => (listed.setIfInBounds i true).getD j false) 0 ops.toList cs s.t := by
          funext x
          by_cases hx : o.dst = some x
          · rw [putS_eq hx]
            refine (tsub_at _ x ops.toList cs 0 i _ o c hol hc (by rw [Nat.zero_add, set_getD hil]; simp) hx (fun j o' hj hne => ?_)).symm
            exact hdep.dst j o' i o x (by simpa using hj) ho hne hx
          · rw [putS_ne hx]
            refine tsub_congr _ _ x _ _ _ _ _ rfl (fun j o' hj ho' => ?_)
            rw [Nat.zero_add, set_getD hil, if_neg]
            intro e; subst e
            rw [hol] at hj; cases hj
            exact hx ho'
        have e2 : upds (bsub (fun j => listed.getD j false) 0 cs s.bx) c.up = bsub (fun j => (listed.setIfInBounds i true).getD j false) 0 cs s.bx := by
          funext k
          by_cases hk : ∃ p ∈ c.up, p.1 = k
          · refine (bsub_at _ k _ cs 0 i _ c hc (by rw [Nat.zero_add, set_getD hil]; simp) hk (fun j c' hj hlt hE hu => ?_)).symm
            rw [Nat.zero_add, set_getD hil, if_neg (by omega)] at hE
            obtain ⟨p, hp, rfl⟩ := hk
            obtain ⟨q, hq, e⟩ := hu
            have := (hord j c' hj (by omega) ⟨q, hq, .inr ⟨p, hp, e⟩⟩).2 hlt
            rw [this] at hE; cases hE
          · rw [upds_not _ _ _ (fun p hp e => hk ⟨p, hp, e⟩)]
            refine bsub_congr _ _ k _ _ _ _ rfl (fun j c' hj hu => ?_)
            rw [Nat.zero_add, set_getD hil, if_neg]
            intro e; subst e
            rw [hc] at hj; cases hj
            exact hk hu
        rw [← e1, ← e2]
        exact hst'
    have hwpo : StepOK P o (tsub (fun j => decide (j < 0 + i)) 0 ops.toList cs s.t) c.pre c.up c.val → o.wpIn (fen B.R) 0 P a X.w (Inv (listed.setIfInBounds i true)) (post B N Q) := by
      intro hs
      refine hs.wpIn B.R hst.rr hop hpre' hup ?_
      intro X' u hb hR he hv
      exact hfin _ _ ⟨X', rfl, hst.put hdN hR hb he hv⟩
    unfold wpOpIn
    rw [ho]
    show if Region.wanted o (yielded ops a.tmps) = true then _ else _
    rcases hgood with ⟨hg, hs⟩ | ⟨j, wt, g, d, hg, hj, hgd, hcase⟩
    · rw [if_pos (by simp [Region.wanted, hg])]
      exact hwpo hs
    · have hd : d ∈ o.looksAt ops := by
        unfold Oper.looksAt
        refine List.mem_append_right _ ?_
        simp [hg, hj, hgd]
      have hv := hst.t d
      simp only at hv
      rw [← hlook d hd] at hv
      have hdN' : d < a.tmps.size := by
        rw [hst.N]
        rw [List.all_eq_true] at hdst
        have := hdst g (by have := Array.mem_of_getElem? hj; simpa using this)
        rw [hgd] at this
        exact Nat.blt_eq ▸ (by simpa [okDst] using this)
      have e1 : a.tmps[d]? = some (a.tmps.getD d undef) := by
        rw [Array.getElem?_eq_getElem hdN']
        have : a.tmps.getD d undef = a.tmps[d] := by simp [hdN']
        rw [this]
      rcases hcase with ⟨htd, hs⟩ | ⟨hng, hp0, hu0, hv0⟩
      · rw [htd] at hv
        simp only [VRep] at hv
        have hy : yielded ops a.tmps j = some wt := by simp only [yielded, hj, hgd, Option.bind_some, e1, hv]
        rw [if_pos (by simp only [Region.wanted, hg, hy]; simp)]
        exact hwpo hs
      · have hy : yielded ops a.tmps j ≠ some wt := by
          have := hng.wanted hv
          simp only [yielded, hj, hgd, Option.bind_some, e1]
          exact this
        rw [if_neg (by simp only [Region.wanted, hg]; simpa using hy)]
        refine ⟨fun _ _ => trivial, hfin _ _ ⟨X, rfl, ?_⟩⟩
        rw [hu0, hv0]
        exact hst.put (up := []) hdN hst.rr rfl (Ext.refl X) (by simp [VRep])
  have hmain : ∀ fuel listed a w, Inv listed a w → (listed.toList.filter (! ·)).length ≤ fuel → wpAnyIn (fen B.R) 0 P .any ops (post B N Q) fuel listed a w := by
    intro fuel
    induction fuel with
    | zero =>
      intro listed a w hI hf
      have hr : Region.ready .any ops listed = [] := by
        apply List.eq_nil_iff_forall_not_mem.2
        intro i hi
        obtain ⟨hi0, o, ho, _⟩ := mem_ready.1 hi
        have hil : i < listed.size := by rw [hI.1]; exact (Array.getElem?_eq_some_iff.1 ho).1
        have h2 : listed.getD i true = listed[i] := by simp [hil]
        have : listed[i] ∈ listed.toList.filter (! ·) := by
          rw [List.mem_filter]
          exact ⟨by simp, by rw [← h2, hi0]; rfl⟩
        rw [List.length_eq_zero_iff.1 (Nat.le_zero.1 hf)] at this
        cases this
      exact ⟨hr, hdone _ _ _ hI hr⟩
    | succ fuel ih =>
      intro listed a w hI hf
      refine ⟨fun hr => hdone _ _ _ hI hr, fun i hi => ?_⟩
      refine wpOpIn_mono (fun a' w' hI' => ih _ a' w' hI' ?_) (hstep listed a w i hI hi)
      obtain ⟨hi0, o, ho, _⟩ := mem_ready.1 hi
      have hil : i < listed.size := by rw [hI.1]; exact (Array.getElem?_eq_some_iff.1 ho).1
      have h2 : listed.getD i true = listed[i] := by simp [hil]
      have hfl : listed.toList[i]'(by simpa using hil) = false := by have := hi0; rw [h2] at this; simpa using this
      have : ((listed.setIfInBounds i true).toList.filter (! ·)).length + 1 = (listed.toList.filter (! ·)).length := by
        rw [Array.toList_setIfInBounds]
        exact count_set listed.toList i (by simpa using hil) hfl
      omega
  have hrep : ∀ j, (Array.replicate ops.size false).getD j false = false := by
    intro j
    rw [Array.getD_eq_getD_getElem?, Array.getElem?_replicate]
    split <;> rfl
  refine hmain ops.size _ a0 _ ⟨by simp, fun j o ho hj => ?_, { X0 with w := { X0.w with drawn := X0.w.drawn + 1 } }, rfl, ?_⟩ ?_
  · rw [hrep] at hj; cases hj
  · have e1 : (fun j => (Array.replicate ops.size false).getD j false) = fun _ => false := by funext j; exact hrep j
    rw [e1, tsub_none _ _ _ _ _ (fun _ _ => rfl), bsub_none _ _ _ _ (fun _ _ => rfl)]
    obtain ⟨d1, d2⟩ := drew_st hs0.rr (X0.w.drawn + 1)
    exact ⟨d1, hs0.bx, fun i => VRep.mono d2 _ _ (hs0.t i), hs0.N, hs0.defers.mono d2 rfl, hs0.ext.trans d2⟩
  · simp
where
  count_set : ∀ (l : List Bool) (i : Nat) (hi : i < l.length), l[i] = false → ((l.set i true).filter (! ·)).length + 1 = (l.filter (! ·)).length
    | [], i, hi, h => by simp at hi
    | b :: l, 0, hi, h => by simp at h; subst h; simp
    | b :: l, i + 1, hi, h => by
      have := count_set l i (by simpa using hi) (by simpa using h)
      cases b <;> simp_all
end Go.Vm

