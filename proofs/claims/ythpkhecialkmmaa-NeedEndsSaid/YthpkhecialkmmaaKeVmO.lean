/- A logic of values over the model. Part O: regions that draw their order, with calls of yield in them: a call on which all that is behind it waits, and which waits for all that is ahead of it, parts the region. -/
import Derived.Test.YthpkhecialkmmaaKeVmV
set_option linter.unusedVariables false
set_option linter.unusedSimpArgs false
namespace Go.Vm
/-- Of an operation that waits for all ahead of it, and for which all behind it wait. -/
def barOK (ops : Array Oper) (b : Nat) : Bool :=
  (List.range ops.size).all fun j => (!Nat.blt j b || reach ops ops.size b j) && (!Nat.blt b j || reach ops ops.size j b)
theorem barOK_spec {ops : Array Oper} {b : Nat} (h : barOK ops b = true) : (∀ j, j < ops.size → j < b → reach ops ops.size b j = true) ∧ ∀ j, j < ops.size → b < j → reach ops ops.size j b = true := by
  unfold barOK at h
  rw [List.all_eq_true] at h
  refine ⟨fun j hj hb => ?_, fun j hj hb => ?_⟩
  · have := h j (List.mem_range.2 hj)
    rw [Bool.and_eq_true] at this
    have h1 := this.1
    rw [Bool.or_eq_true] at h1
    rcases h1 with h1 | h1
    · have : Nat.blt j b = true := by rw [Nat.blt_eq]; exact hb
      rw [this] at h1; cases h1
    · exact h1
  · have := h j (List.mem_range.2 hj)
    rw [Bool.and_eq_true] at this
    have h1 := this.2
    rw [Bool.or_eq_true] at h1
    rcases h1 with h1 | h1
    · have : Nat.blt b j = true := by rw [Nat.blt_eq]; exact hb
      rw [this] at h1; cases h1
    · exact h1
section
variable {P : Program} {B : Bas} {N n : Nat} {bx : Nat → Box} {Q : Exit → S → Prop} {ops : Array Oper} {L : List Oper} {l : List (Nat × V)} {o : Oper} {s s' : S} {k m : Nat}
structure RInv (P : Program) (B : Bas) (N : Nat) (ops : Array Oper) (Q : Exit → S → Prop) (I : Array Bool → Act → World → Prop) : Prop where
  sz : ∀ listed a w, I listed a w → listed.size = ops.size
  done : ∀ listed a w, I listed a w → Region.ready .any ops listed = [] → post B N Q .normal a w
  step : ∀ listed a w i, I listed a w → i ∈ Region.ready .any ops listed → wpOpIn (fen B.R) 0 P ops (post B N Q) i (I (listed.setIfInBounds i true)) a w
def Just (ops : Array Oper) (k : Nat) (listed : Array Bool) : Prop := listed.size = ops.size ∧ ∀ j, j < ops.size → listed.getD j false = decide (j < k)
/-- What is left of a region behind its first k operations. -/
def RegAt (P : Program) (B : Bas) (N : Nat) (ops : Array Oper) (Q : Exit → S → Prop) (k : Nat) (s : S) : Prop :=
  ∃ I, RInv P B N ops Q I ∧ ∀ listed X a, Just ops k listed → St B N s X a → I listed a X.w
theorem ready_at {i : Nat} {listed : Array Bool} (h : i ∈ Region.ready .any ops listed) (hsz : listed.size = ops.size) : ∃ o, ops[i]? = some o ∧ i < ops.size ∧ listed.getD i false = false ∧ ∀ e ∈ o.after, Region.binds .any e = true → listed.getD e.on false = true := by
  obtain ⟨hi0, o, ho, hpred⟩ := mem_ready.1 h
  have hilt : i < ops.size := (Array.getElem?_eq_some_iff.1 ho).1
  have hil : i < listed.size := by omega
  have hif : listed.getD i false = false := by
    have h1 : listed.getD i false = listed[i] := by simp [hil]
    have h2 : listed.getD i true = listed[i] := by simp [hil]
    rw [h1, ← h2]; exact hi0
  exact ⟨o, ho, hilt, hif, hpred⟩
theorem ready_of {i : Nat} {listed : Array Bool} {o : Oper} (hsz : listed.size = ops.size) (ho : ops[i]? = some o) (hf : listed.getD i false = false) (h : ∀ e ∈ o.after, Region.binds .any e = true → listed.getD e.on false = true) : i ∈ Region.ready .any ops listed := by
  have hilt : i < ops.size := (Array.getElem?_eq_some_iff.1 ho).1
  have hil : i < listed.size := by omega
  refine mem_ready.2 ⟨?_, o, ho, h⟩
  have h1 : listed.getD i false = listed[i] := by simp [hil]
  have h2 : listed.getD i true = listed[i] := by simp [hil]
  rw [h2, ← h1]; exact hf
/-- The region as a whole. -/
theorem runs_reg {id : Nat} (hm : P.follows .mixedOrders = true) (h : RegAt P B N ops Q 0 s) : Runs P B N (.region id ops true) s Q := by
  intro X0 a0 hs0
  obtain ⟨I, hI, h0⟩ := h
  refine wpIn_region_any hm ?_
  have hmain : ∀ fuel listed a w, I listed a w → (listed.toList.filter (! ·)).length ≤ fuel → wpAnyIn (fen B.R) 0 P .any ops (post B N Q) fuel listed a w := by
    intro fuel
    induction fuel with
    | zero =>
      intro listed a w hi hf
      have hr : Region.ready .any ops listed = [] := by
        apply List.eq_nil_iff_forall_not_mem.2
        intro i hir
        obtain ⟨hi0, o, ho, _⟩ := mem_ready.1 hir
        have hil : i < listed.size := by rw [hI.sz _ _ _ hi]; exact (Array.getElem?_eq_some_iff.1 ho).1
        have h2 : listed.getD i true = listed[i] := by simp [hil]
        have : listed[i] ∈ listed.toList.filter (! ·) := by
          rw [List.mem_filter]
          exact ⟨by simp, by rw [← h2, hi0]; rfl⟩
        rw [List.length_eq_zero_iff.1 (Nat.le_zero.1 hf)] at this
        cases this
      exact ⟨hr, hI.done _ _ _ hi hr⟩
    | succ fuel ih =>
      intro listed a w hi hf
      refine ⟨fun hr => hI.done _ _ _ hi hr, fun i hir => ?_⟩
      refine wpOpIn_mono (fun a' w' hi' => ih _ a' w' hi' ?_) (hI.step listed a w i hi hir)
      obtain ⟨hi0, o, ho, _⟩ := mem_ready.1 hir
      have hil : i < listed.size := by rw [hI.sz _ _ _ hi]; exact (Array.getElem?_eq_some_iff.1 ho).1
      have h2 : listed.getD i true = listed[i] := by simp [hil]
      have hfl : listed.toList[i]'(by simpa using hil) = false := by have := hi0; rw [h2] at this; simpa using this
      have : ((listed.setIfInBounds i true).toList.filter (! ·)).length + 1 = (listed.toList.filter (! ·)).length := by
        rw [Array.toList_setIfInBounds]
        exact runs_region_draw.count_set listed.toList i (by simpa using hil) hfl
      omega
  have hrep : ∀ j, (Array.replicate ops.size false).getD j false = false := by
    intro j
    rw [Array.getD_eq_getD_getElem?, Array.getElem?_replicate]
    split <;> rfl
  obtain ⟨d1, d2⟩ := drew_st hs0.rr (X0.w.drawn + 1)
  refine hmain ops.size _ a0 _ (h0 _ { X0 with w := { X0.w with drawn := X0.w.drawn + 1 } } a0 ⟨by simp, fun j hj => by rw [hrep]; simp⟩ ⟨d1, hs0.bx, fun i => VRep.mono d2 _ _ (hs0.t i), hs0.N, hs0.defers.mono d2 rfl, hs0.ext.trans d2⟩) ?_
  simp
/-- All has run. -/
theorem reg_end (hk : ops.size ≤ k) (hQ : Q .normal s) : RegAt P B N ops Q k s := by
  refine ⟨fun listed a w => Just ops k listed ∧ ∃ X, X.w = w ∧ St B N s X a, ⟨fun _ _ _ h => h.1.1, ?_, ?_⟩, fun listed X a h1 h2 => ⟨h1, X, rfl, h2⟩⟩
  · rintro listed a w ⟨_, X, rfl, hst⟩ _
    exact .inl ⟨_, X, hQ, rfl, hst⟩
  · rintro listed a w i ⟨h1, _⟩ hi
    obtain ⟨o, ho, hlt, hf, _⟩ := ready_at hi h1.1
    rw [h1.2 i hlt] at hf
    simp at hf
    omega
/-- An operation on which all behind it wait. -/
theorem reg_bar (hdep : depOK ops = true) (hb : barOK ops k = true) (ho : ops[k]? = some o) (h : RegAt P B N ops Q (k + 1) s')
    (hop : ∀ (K : Act → World → Prop) X a, St B N s X a → (∀ X' a', St B N s' X' a' → K a' X'.w) → wpOpIn (fen B.R) 0 P ops (post B N Q) k K a X.w) : RegAt P B N ops Q k s := by
  obtain ⟨I, hI, h0⟩ := h
  have hdep := depOK_spec hdep
  obtain ⟨b1, b2⟩ := barOK_spec hb
  have hklt : k < ops.size := (Array.getElem?_eq_some_iff.1 ho).1
  refine ⟨fun listed a w => I listed a w ∨ (Just ops k listed ∧ ∃ X, X.w = w ∧ St B N s X a), ⟨?_, ?_, ?_⟩, fun listed X a h1 h2 => .inr ⟨h1, X, rfl, h2⟩⟩
  · rintro listed a w (h | h)
    · exact hI.sz _ _ _ h
    · exact h.1.1
  · rintro listed a w (h | ⟨h1, _⟩) hr
    · exact hI.done _ _ _ h hr
    · have : k ∈ Region.ready .any ops listed := ready_of h1.1 ho (by rw [h1.2 k hklt]; simp) fun e he hbi => by
        have := hdep.back k o ho e he hbi
        rw [h1.2 e.on (by omega)]; simpa using this
      rw [hr] at this; cases this
  · rintro listed a w i (h | ⟨h1, X, rfl, hst⟩) hi
    · exact wpOpIn_mono (fun _ _ h => .inl h) (hI.step _ _ _ _ h hi)
    · obtain ⟨o', ho', hlt, hf, hpred⟩ := ready_at hi h1.1
      have hge : k ≤ i := by
        rw [h1.2 i hlt] at hf
        simpa using hf
      have hik : i = k := by
        by_cases hgt : k < i
        · have hr := b2 i hlt hgt
          have hx : listed.getD k false = true := reach_in (D := fun j => listed.getD j false) (fun j o2 ho2 hj e he hbi => by
              have hj2 : j < ops.size := (Array.getElem?_eq_some_iff.1 ho2).1
              have hjk : j < k := by
                have h3 := h1.2 j hj2
                have hj' : listed.getD j false = true := hj
                rw [hj'] at h3
                simpa using h3.symm
              have := hdep.back j o2 ho2 e he hbi
              show listed.getD e.on false = true
              rw [h1.2 e.on (by omega)]; simp; omega) ops.size i k (fun o2 ho2 e he hbi => by rw [ho'] at ho2; cases ho2; exact hpred e he hbi) hr
          rw [h1.2 k hklt] at hx
          simp at hx
        · omega
      subst hik
      refine hop _ X a hst fun X' a' hst' => .inl (h0 _ X' a' ⟨by simpa using h1.1, fun j hj => ?_⟩ hst')
      have hil : i < listed.size := by rw [h1.1]; exact hlt
      rw [set_getD hil]
      by_cases hji : j = i
      · rw [if_pos hji]; simp [hji]
      · rw [if_neg hji, h1.2 j hj]
        by_cases h3 : j < i
        · simp [h3]; omega
        · simp [h3]; omega
/-- Operations that are drawn, up to one for which all wait (or to the end). -/
theorem reg_seg {seg : List Oper} (cs : List Ac) (hdep : depOK ops = true) (hdst : ops.toList.all (fun o => okDst N o.dst) = true) (hseg : (ops.toList.drop k).take m = seg) (hml : seg.length = m) (hb : k + m = ops.size ∨ barOK ops (k + m) = true)
    (h : ActsOK P ops s.n seg s.t s.bx cs) (hap : ∀ (i j : Nat) (c c' : Ac), cs[i]? = some c → cs[j]? = some c' → i < j → reach ops ops.size (k + j) (k + i) = true ∨ Apart c c')
    (hnext : RegAt P B N ops Q (k + m) ⟨tall seg cs s.t, s.n, ball cs s.bx⟩) : RegAt P B N ops Q k s := by
  by_cases hm0 : m = 0
  · subst hm0
    obtain rfl : seg = [] := List.length_eq_zero_iff.1 hml
    cases cs with
    | nil => exact hnext
    | cons c cs => simp only [ActsOK] at h
  have hdep := depOK_spec hdep
  have hlen := acts_len _ _ _ _ h
  have hkm : k + m ≤ ops.size := by
    have := congrArg List.length hseg
    rw [List.length_take, List.length_drop] at this
    simp at this; omega
  have hat : ∀ i, i < m → ops[k + i]? = seg[i]? := fun i hi => by
    rw [← hseg, List.getElem?_take, if_pos hi, List.getElem?_drop]; simp
  have hsz' : ∀ {i o}, seg[i]? = some o → i < m := fun h => by have := (List.getElem?_eq_some_iff.1 h).1; omega
  obtain ⟨I, hI, h0⟩ := hnext
  let Mid : Array Bool → Act → World → Prop := fun listed a w => listed.size = ops.size ∧ (∀ (j : Nat) (o : Oper), ops[j]? = some o → listed.getD j false = true → ∀ e ∈ o.after, Region.binds .any e = true → listed.getD e.on false = true) ∧
    (∀ j, j < k → listed.getD j false = true) ∧ (∀ j, k + m ≤ j → j < ops.size → listed.getD j false = false) ∧ (∃ j, j < m ∧ listed.getD (k + j) false = false) ∧
    ∃ X, X.w = w ∧ St B N ⟨tsub (fun j => listed.getD j false) k seg cs s.t, s.n, bsub (fun j => listed.getD j false) k cs s.bx⟩ X a
  refine ⟨fun listed a w => I listed a w ∨ Mid listed a w, ⟨?_, ?_, ?_⟩, fun listed X a h1 h2 => .inr ⟨h1.1, ?_, ?_, ?_, ⟨0, by omega, ?_⟩, X, rfl, ?_⟩⟩
  · rintro listed a w (h | h)
    · exact hI.sz _ _ _ h
    · exact h.1
  · rintro listed a w (h | ⟨hsz, hcl, hlo, hhi, ⟨j0, hj0, hf0⟩, _⟩) hr
    · exact hI.done _ _ _ h hr
    · exfalso
      have hall : ∀ j, j < m → listed.getD (k + j) false = true := by
        intro j
        induction j using Nat.strongRecOn with
        | _ j ih =>
          intro hj
          cases hq : listed.getD (k + j) false with
          | true => rfl
          | false =>
            obtain ⟨o, ho⟩ : ∃ o, ops[k + j]? = some o := ⟨ops[k + j]'(by omega), by simp⟩
            have : k + j ∈ Region.ready .any ops listed := ready_of hsz ho hq fun e he hbi => by
              have hlt := hdep.back (k + j) o ho e he hbi
              by_cases hk : e.on < k
              · exact hlo _ hk
              · have := ih (e.on - k) (by omega) (by omega)
                rw [show k + (e.on - k) = e.on by omega] at this
                exact this
            rw [hr] at this
            cases this
      rw [hall j0 hj0] at hf0; cases hf0
  · rintro listed a w i (h | ⟨hsz, hcl, hlo, hhi, ⟨j0, hj0, hf0⟩, X, rfl, hst⟩) hi
    · exact wpOpIn_mono (fun _ _ h => .inl h) (hI.step _ _ _ _ h hi)
    obtain ⟨o, ho, hilt, hif, hpred⟩ := ready_at hi hsz
    have hil : i < listed.size := by omega
    have hre : ∀ j, reach ops ops.size i j = true → listed.getD j false = true := fun j hr => reach_in (D := fun j => listed.getD j false) hcl ops.size i j (fun o' ho' e he hb => by rw [ho] at ho'; cases ho'; exact hpred e he hb) hr
    have hre2 : ∀ j, reach ops ops.size j i = true → listed.getD j false = false := by
      intro j hr
      cases hq : listed.getD j false with
      | false => rfl
      | true =>
        have := reach_in (D := fun j => listed.getD j false) hcl ops.size j i (fun o' ho' => hcl j o' ho' hq) hr
        rw [hif] at this; cases this
    have hik : k ≤ i := by
      apply Nat.le_of_not_lt
      intro hlt
      rw [hlo i hlt] at hif; cases hif
    have him : i < k + m := by
      apply Nat.lt_of_not_le
      intro hge
      rcases hb with hb | hb
      · omega
      obtain ⟨b1, b2⟩ := barOK_spec hb
      by_cases heq : i = k + m
      · subst heq
        have := hre (k + j0) (b1 (k + j0) (by omega) (by omega))
        rw [this] at hf0; cases hf0
      · have := hre (k + m) (b2 i hilt (by omega))
        rw [hhi (k + m) (Nat.le_refl _) (by omega)] at this; cases this
    obtain ⟨i', rfl⟩ : ∃ i', i = k + i' := ⟨i - k, by omega⟩
    have hol : seg[i']? = some o := by rw [← hat i' (by omega)]; exact ho
    obtain ⟨c, hc, hgood, hpre, hup⟩ := acts_get seg s.t s.bx cs k i' o h hol
    have hlook : ∀ d, d ∈ o.looksAt ops → tsub (fun j => decide (j < k + i')) k seg cs s.t d = tsub (fun j => listed.getD j false) k seg cs s.t d := by
      intro d hd
      refine tsub_congr _ _ d _ _ _ _ _ rfl (fun j o' hj ho' => ?_)
      by_cases hji : j = i'
      · subst hji; simp only [Nat.lt_irrefl, decide_false]; exact hif.symm
      · have hj' : ops[k + j]? = some o' := by rw [hat j (hsz' hj)]; exact hj
        obtain ⟨l1, l2⟩ := hdep.look (k + i') o (k + j) o' d ho hj' (by omega) ho' hd
        by_cases hlt : j < i'
        · rw [hre (k + j) (l1 (by omega))]; simp; omega
        · rw [hre2 (k + j) (l2 (by omega))]; simp; omega
    have hop : ∀ x ∈ o.op.operands, VRep X (ev (tsub (fun j => decide (j < k + i')) k seg cs s.t) x) (a.eval x) := by
      intro x hx
      have hv := ev_rep hst.t x
      cases x with
      | tmp d =>
        have hd : d ∈ o.looksAt ops := by
          unfold Oper.looksAt
          refine List.mem_append_left _ ?_
          rw [List.mem_filterMap]
          exact ⟨.tmp d, by simpa using hx, rfl⟩
        simp only [ev] at hv ⊢
        rw [hlook d hd]; exact hv
      | const v => exact hv
      | func f => exact hv
      | global g => exact hv
    have hord : ∀ (j : Nat) (c' : Ac), cs[j]? = some c' → j ≠ i' → (∃ p ∈ c'.up, (∃ q ∈ c.pre, p.1 = q.1) ∨ ∃ q ∈ c.up, p.1 = q.1) → (j < i' → listed.getD (k + j) false = true) ∧ (i' < j → listed.getD (k + j) false = false) := by
      intro j c' hj hne ⟨p, hp, hpq⟩
      refine ⟨fun hlt => ?_, fun hlt => ?_⟩
      · rcases hap j i' c' c hj hc hlt with hr | ⟨h1, h2⟩
        · exact hre _ hr
        · rcases hpq with ⟨q, hq, e⟩ | ⟨q, hq, e⟩
          · exact absurd e ((h1 p hp).1 q hq)
          · exact absurd e ((h1 p hp).2 q hq)
      · rcases hap i' j c c' hc hj hlt with hr | ⟨h1, h2⟩
        · exact hre2 _ hr
        · rcases hpq with ⟨q, hq, e⟩ | ⟨q, hq, e⟩
          · exact absurd e (h2 p hp q hq)
          · exact absurd e.symm ((h1 q hq).2 p hp)
    have hpre' : ∀ p ∈ c.pre, X.bx p.1 = p.2 := by
      intro p hp
      rw [hst.bx, ← hpre p hp]
      refine (bsub_congr _ _ p.1 _ _ _ _ rfl (fun j c' hj hu => ?_)).symm
      obtain ⟨q, hq, e⟩ := hu
      by_cases hji : j = i'
      · subst hji; simp only [Nat.lt_irrefl, decide_false]; exact hif.symm
      · obtain ⟨l1, l2⟩ := hord j c' hj hji ⟨q, hq, .inl ⟨p, hp, e⟩⟩
        by_cases hlt : j < i'
        · rw [l1 hlt]; simp; omega
        · rw [l2 (by omega)]; simp; omega
    have hdN : okDst N o.dst = true := by
      rw [List.all_eq_true] at hdst
      exact hdst o (by have := Array.mem_of_getElem? ho; simpa using this)
    have hfin : ∀ a' w', (∃ X', X'.w = w' ∧ St B N ⟨putS (tsub (fun j => listed.getD j false) k seg cs s.t) o.dst c.val, s.n, upds (bsub (fun j => listed.getD j false) k cs s.bx) c.up⟩ X' a') → (I (listed.setIfInBounds (k + i') true) a' w' ∨ Mid (listed.setIfInBounds (k + i') true) a' w') := by
      rintro a' w' ⟨X', rfl, hst'⟩
      have e1 : putS (tsub (fun j => listed.getD j false) k seg cs s.t) o.dst c.val = tsub (fun j => (listed.setIfInBounds (k + i') true).getD j false) k seg cs s.t := by
        funext x
        by_cases hx : o.dst = some x
        · rw [putS_eq hx]
          refine (tsub_at _ x seg cs k i' _ o c hol hc (by rw [set_getD hil]; simp) hx (fun j o' hj hne => ?_)).symm
          exact hdep.dst (k + j) o' (k + i') o x (by rw [hat j (hsz' hj)]; exact hj) ho (by omega) hx
        · rw [putS_ne hx]
          refine tsub_congr _ _ x _ _ _ _ _ rfl (fun j o' hj ho' => ?_)
          rw [set_getD hil, if_neg]
          intro e
          obtain rfl : j = i' := by omega
          rw [hol] at hj; cases hj
          exact hx ho'
      have e2 : upds (bsub (fun j => listed.getD j false) k cs s.bx) c.up = bsub (fun j => (listed.setIfInBounds (k + i') true).getD j false) k cs s.bx := by
        funext x
        by_cases hk : ∃ p ∈ c.up, p.1 = x
        · refine (bsub_at _ x _ cs k i' _ c hc (by rw [set_getD hil]; simp) hk (fun j c' hj hlt hE hu => ?_)).symm
          rw [set_getD hil, if_neg (by omega)] at hE
          obtain ⟨p, hp, rfl⟩ := hk
          obtain ⟨q, hq, e⟩ := hu
          have := (hord j c' hj (by omega) ⟨q, hq, .inr ⟨p, hp, e⟩⟩).2 hlt
          rw [this] at hE; cases hE
        · rw [upds_not _ _ _ (fun p hp e => hk ⟨p, hp, e⟩)]
          refine bsub_congr _ _ x _ _ _ _ rfl (fun j c' hj hu => ?_)
          rw [set_getD hil, if_neg]
          intro e
          obtain rfl : j = i' := by omega
          rw [hc] at hj; cases hj
          exact hk hu
      rw [e1, e2] at hst'
      have hlo' : ∀ j, j < k → (listed.setIfInBounds (k + i') true).getD j false = true := fun j hj => by rw [set_getD hil, if_neg (by omega)]; exact hlo j hj
      have hhi' : ∀ j, k + m ≤ j → j < ops.size → (listed.setIfInBounds (k + i') true).getD j false = false := fun j hj hj2 => by rw [set_getD hil, if_neg (by omega)]; exact hhi j hj hj2
      by_cases hq : ∃ j, j < m ∧ (listed.setIfInBounds (k + i') true).getD (k + j) false = false
      · refine .inr ⟨by simpa using hsz, fun j o' ho' hj e he hb => ?_, hlo', hhi', hq, X', rfl, hst'⟩
        rw [set_getD hil] at hj ⊢
        by_cases hji : j = k + i'
        · subst hji
          rw [ho] at ho'; cases ho'
          have := hpred e he hb
          split
          · rfl
          · exact this
        · rw [if_neg hji] at hj
          have := hcl j o' ho' hj e he hb
          split
          · rfl
          · exact this
      · have hall : ∀ j, j < m → (listed.setIfInBounds (k + i') true).getD (k + j) false = true := fun j hj => by
          cases hx : (listed.setIfInBounds (k + i') true).getD (k + j) false with
          | true => rfl
          | false => exact absurd ⟨j, hj, hx⟩ hq
        refine .inl (h0 _ X' a' ⟨by simpa using hsz, fun j hj => ?_⟩ ?_)
        · by_cases h1 : j < k
          · rw [hlo' j h1]; simp; omega
          · by_cases h2 : j < k + m
            · have := hall (j - k) (by omega)
              rw [show k + (j - k) = j by omega] at this
              rw [this]; simp [h2]
            · rw [hhi' j (by omega) hj]; simp; omega
        · have e3 : tsub (fun j => (listed.setIfInBounds (k + i') true).getD j false) k seg cs s.t = tall seg cs s.t := by
            rw [← tsub_all seg cs k]
            funext x
            refine tsub_congr _ _ x _ _ _ _ _ rfl (fun j o hj _ => hall j (hsz' hj))
          have e4 : bsub (fun j => (listed.setIfInBounds (k + i') true).getD j false) k cs s.bx = ball cs s.bx := by
            rw [← bsub_all cs k]
            funext x
            refine bsub_congr _ _ x _ _ _ _ rfl (fun j c hj _ => hall j ?_)
            have := (List.getElem?_eq_some_iff.1 hj).1
            omega
          rw [e3, e4] at hst'
          exact hst'
    have hwpo : StepOK P o (tsub (fun j => decide (j < k + i')) k seg cs s.t) c.pre c.up c.val → o.wpIn (fen B.R) 0 P a X.w (fun a' w' => I (listed.setIfInBounds (k + i') true) a' w' ∨ Mid (listed.setIfInBounds (k + i') true) a' w') (post B N Q) := by
      intro hs
      refine hs.wpIn B.R hst.rr hop hpre' hup ?_
      intro X' u hb hR he hv
      exact hfin _ _ ⟨X', rfl, hst.put hdN hR hb he hv⟩
    unfold wpOpIn
    rw [ho]
    show if Region.wanted o (yielded ops a.tmps) = true then _ else _
    rcases hgood with ⟨hg, hs⟩ | ⟨j, wt, g, d, hg, hj, hgd, hcase⟩
    · rw [if_pos (by simp [Region.wanted, hg])]
      exact hwpo hs
    · have hd : d ∈ o.looksAt ops := by
        unfold Oper.looksAt
        refine List.mem_append_right _ ?_
        simp [hg, hj, hgd]
      have hv := hst.t d
      simp only at hv
      rw [← hlook d hd] at hv
      have hdN' : d < a.tmps.size := by
        rw [hst.N]
        rw [List.all_eq_true] at hdst
        have := hdst g (by have := Array.mem_of_getElem? hj; simpa using this)
        rw [hgd] at this
        exact Nat.blt_eq ▸ (by simpa [okDst] using this)
      have e1 : a.tmps[d]? = some (a.tmps.getD d undef) := by
        rw [Array.getElem?_eq_getElem hdN']
        have : a.tmps.getD d undef = a.tmps[d] := by simp [hdN']
        rw [this]
      rcases hcase with ⟨htd, hs⟩ | ⟨hng, hp0, hu0, hv0⟩
      · rw [htd] at hv
        simp only [VRep] at hv
        have hy : yielded ops a.tmps j = some wt := by simp only [yielded, hj, hgd, Option.bind_some, e1, hv]
        rw [if_pos (by simp only [Region.wanted, hg, hy]; simp)]
        exact hwpo hs
      · have hy : yielded ops a.tmps j ≠ some wt := by
          have := hng.wanted hv
          simp only [yielded, hj, hgd, Option.bind_some, e1]
          exact this
        rw [if_neg (by simp only [Region.wanted, hg]; simpa using hy)]
        refine ⟨fun _ _ => trivial, hfin _ _ ⟨X, rfl, ?_⟩⟩
        rw [hu0, hv0]
        exact hst.put (up := []) hdN hst.rr rfl (Ext.refl X) (by simp [VRep])
  · intro j o ho hj e he hbi
    have hjs : j < ops.size := (Array.getElem?_eq_some_iff.1 ho).1
    rw [h1.2 j hjs] at hj
    have := hdep.back j o ho e he hbi
    rw [h1.2 e.on (by omega)]
    simp at hj ⊢; omega
  · intro j hj; rw [h1.2 j (by omega)]; simpa using hj
  · intro j hj hj2; rw [h1.2 j hj2]; simp; omega
  · rw [h1.2 _ (by omega)]; simp
  · have hno : ∀ j, k ≤ j → j < ops.size → listed.getD j false = false := fun j hj hj2 => by rw [h1.2 j hj2]; simp; omega
    have hno2 : ∀ j, k ≤ j → listed.getD j false = false := fun j hj => by
      by_cases hjs : j < ops.size
      · exact hno j hj hjs
      · rw [Array.getD_eq_getD_getElem?, Array.getElem?_eq_none (by rw [h1.1]; omega)]; rfl
    rw [tsub_none _ _ _ _ _ hno2, bsub_none _ _ _ _ hno2]
    exact h2
theorem reg_bool {d : Nat} {b : Bool} (hb : lk l d = some (.sc (.bool b))) (h1 : b = true → RegAt P B N ops Q k ⟨mk ((d, .sc (.bool true)) :: l), n, bx⟩) (h2 : b = false → RegAt P B N ops Q k ⟨mk ((d, .sc (.bool false)) :: l), n, bx⟩) : RegAt P B N ops Q k ⟨mk l, n, bx⟩ := by
  have hm := lk_mk hb
  have key : ∀ c, b = c → mk ((d, .sc (.bool c)) :: l) = mk l := by
    intro c hc
    funext i
    by_cases hi : i = d
    · subst hi; simp only [mk, upd_eq]; rw [hm, hc]
    · simp only [mk, upd_ne _ _ _ _ hi]
  cases b with
  | true => have := h1 rfl; rwa [key true rfl] at this
  | false => have := h2 rfl; rwa [key false rfl] at this
/-- The call of a loop's yield. -/
theorem reg_yield {d ll n0 : Nat} {y : Operand} {xs : Array Operand} {tys : Array TypeId} {Xb : Ctx} {vs vs' : List V} {D E : Nat → Bool} {f g : Nat → Box} {b : Bool} (hdep : depOK ops = true) (hb : barOK ops k = true) (hok : ops[k]? = some o)
    (hG : GuardOK N ops l o) (hd : o.dst = some d) (hN : Nat.blt d N = true) (ho : o.op = .call { callee := .value y, args := xs, argTypes := tys }) (hy : lko l y = some (.sc (.func (.yield ll) #[] #[]))) (hvs : lks l xs.toList = some vs) (hl : VLes vs vs')
    (hY : DoesY P Xb ll n0 vs' D E f g b) (hX : Ext Xb B.c) (hn : n0 ≤ n) (hD : ∀ k, D k = true → k < n ∧ bx k = f k) (hE : ∀ k, k < n0 → D k = false → E k = false → bx k = Xb.bx k) (h : RegAt P B N ops Q (k + 1) ⟨mk ((d, .sc (.bool b)) :: l), n, ov D g bx⟩) : RegAt P B N ops Q k ⟨mk l, n, bx⟩ := by
  refine reg_bar hdep hb hok h fun K X a hst hK => ?_
  unfold wpOpIn
  rw [hok]
  show if Region.wanted o (yielded ops a.tmps) = true then _ else _
  rw [if_pos (wanted_of hG hst)]
  have hargs : RowRep X vs (xs.toList.map a.eval) := rowRep_map _ _ (evs_mk hvs) (fun x _ => ev_rep hst.t x)
  obtain ⟨fn, tmps, assign, body, hy1, hy2⟩ := hY n X (xs.toList.map a.eval) hn hst.rr (hX.trans hst.ext) (hl.row hargs) (fun k hk => by rw [show X.bx = bx from hst.bx]; exact hD k hk) (fun k h1 h2 h3 => by rw [show X.bx = bx from hst.bx]; exact hE k h1 h2 h3)
  have hyv : a.eval y = .func (.yield ll) #[] #[] := by
    have := ev_rep hst.t y
    rw [show ev (⟨mk l, n, bx⟩ : S).t y = _ from ev_mk hy] at this
    simpa only [VRep] using this
  have hxs : xs.map a.eval = (xs.toList.map a.eval).toArray := by apply Array.toList_inj.1; rw [Array.toList_map]
  have hrun : (o.semAt (fen B.R).round a.eval).run P X.w = .ok (.round ll fn tmps assign body) X.w := by
    have e0 : o.semAt (fen B.R).round a.eval = execOp a.eval o := by
      cases hr : (fen B.R).round with
      | none => exact Oper.semAt_none _ _
      | some q => exact Oper.semAt_some q _ _ (fun c hc => by rw [ho] at hc; cases hc)
    rw [e0, exec_call ho]
    have e1 : resolve a.eval { callee := .value y, args := xs, argTypes := tys } o.type = Deferred.ofValue (a.eval y) (xs.map a.eval) := rfl
    rw [e1, hyv]
    have e2 : (Deferred.ofValue (.func (.yield ll) #[] #[]) (xs.map a.eval) : Sem Deferred) = pure { target := .fn (.yield ll) #[], args := #[] ++ xs.map a.eval } := rfl
    rw [e2]
    simp only [Sem.run_bind, Sem.run_pure, Result.andThen_ok, invoke]
    rw [Array.empty_append, hxs, hy1]
  refine ⟨fun _ _ => trivial, ?_⟩
  rw [hrun]
  refine ⟨(fun h => by cases h), roundIn_any _ 0 _ (hy2.mono ?_)⟩
  rintro e w' ⟨rfl, X', rfl, x2, x3, x4⟩
  refine hK X' _ ?_
  rw [hd]
  exact hst.put2 (dst := some d) (v := .sc (.bool b)) (u := .bool b) hN x3 (by rw [x2, show X.bx = bx from hst.bx]) x4 (by simp [VRep])
def dum : Ac := ⟨[], [], .junk⟩
theorem ap_dum (c : Ac) : Apart dum c := ⟨by simp [dum], by simp [dum]⟩
theorem apList_dum {i : Nat} : ∀ (cs : List Ac) (j : Nat), ApList ops i dum j cs
  | [], _ => trivial
  | c :: cs, j => ⟨.inr (ap_dum c), apList_dum cs (j + 1)⟩
theorem apAll_dum : ∀ (m j : Nat) (cs : List Ac), ApAll ops (j + m) cs → ApAll ops j (List.replicate m dum ++ cs)
  | 0, j, cs, h => by simpa using h
  | m + 1, j, cs, h => by
    rw [List.replicate_succ, List.cons_append]
    exact ⟨apList_dum _ _, apAll_dum m (j + 1) cs (by rw [show j + 1 + m = j + (m + 1) by omega]; exact h)⟩
theorem dlnils {acc' : List Ac} (h : ApAll ops k acc'.reverse) (hQ : Q .normal ⟨mk l, n, bx⟩) : DrawL P N n ops Q [] (mk l) bx (acc' ++ List.replicate k dum) :=
  ⟨[], trivial, by
    rw [List.append_nil, List.reverse_append, List.reverse_replicate]
    exact apAll_dum k 0 _ (by rw [Nat.zero_add]; exact h), hQ⟩
/-- Operations that are drawn, told one by one. -/
theorem reg_draw {seg : List Oper} (hdep : depOK ops = true) (hdst : ops.toList.all (fun o => okDst N o.dst) = true) (hseg : (ops.toList.drop k).take m = seg) (hml : seg.length = m) (hb : k + m = ops.size ∨ barOK ops (k + m) = true)
    (h : DrawL P N n ops (fun _ s => RegAt P B N ops Q (k + m) s) seg (mk l) bx (List.replicate k dum)) : RegAt P B N ops Q k ⟨mk l, n, bx⟩ := by
  obtain ⟨cs, h1, h2, h3⟩ := h
  refine reg_seg (s := ⟨mk l, n, bx⟩) cs hdep hdst hseg hml hb h1 (fun i j c c' hi hj hij => ?_) h3
  rw [List.reverse_replicate] at h2
  have g : ∀ {i : Nat} {c : Ac}, cs[i]? = some c → (List.replicate k dum ++ cs)[k + i]? = some c := fun {i c} hi => by
    rw [List.getElem?_append_right (by simp)]; simpa using hi
  have := h2.get (g hi) (g hj) (by omega)
  simpa using this
end
/-! ### An iterator that ranges over another one -/
section
variable {P : Program} {B : Bas} {N n : Nat} {l : List (Nat × V)} {bx : Nat → Box} {Q : Exit → S → Prop} {g : Operand} {ps : Array Tmp} {assign body : Code} {f : FuncId} {caps : List V} {xs : List (List V)} {fnn : Func} {m : Nat} {brk : Bool} {ex : Exit} {gv : V} {kl : Nat}
  {El : List (Nat × Box × (Nat → Bool → Box))} {Dl : List (Nat × (Nat → Box))} {D : Nat → Bool} {σ : Nat → Nat → Box} {cnt : Nat → Nat} {pre : List (Nat × Box)}
/-- What is asked of the rounds: the caller's entries (D) are as behind cnt i yields, own ones as Dl says. -/
def RoundsY (P : Program) (B : Bas) (N n : Nat) (l : List (Nat × V)) (bx : Nat → Box) (ps : Array Tmp) (assign body : Code) (xs : List (List V)) (D : Nat → Bool) (σ : Nat → Nat → Box) (cnt : Nat → Nat) (Dl : List (Nat × (Nat → Box))) (ks : List Nat) (kl m : Nat) (brk : Bool) (ex : Exit) : Prop :=
  ∀ i v, i < m → xs[i]? = some v → ∀ (B' : Bas) (n' lr : Nat) (bx' : Nat → Box), B'.R = some lr → B'.c.bl kl = lr → B'.c.bx kl = bx' kl → (∃ r0, bx' kl = .obj (.loop r0)) → Ext B.c B'.c → n ≤ n' → (∀ k, n' ≤ k → bx' k = .dead) → (∀ k, D k = true → bx' k = σ (cnt i) k) → AllP (fun p => bx' p.1 = p.2) (dL Dl i) → (∀ k, k < n → D k = false → AllP (fun q => k ≠ q) ks → k ≠ kl → bx' k = bx k) →
    Runs P B' N assign ⟨mk (zipps ps.toList v l), n', bx'⟩ (fun e s => e = .normal ∧ s.bx kl = bx' kl ∧ ∀ r1, Runs P B' N body ⟨s.t, s.n, upd s.bx kl (.obj (.loop r1))⟩ (fun e s => e = (if brk = true ∧ i + 1 = m then ex else .normal) ∧ s.bx kl = .obj (.loop r1) ∧ ∀ k, k < n' → k ≠ kl → BoxLe (s.bx k) (ov D (σ (cnt (i + 1))) (updL (dL Dl (i + 1)) bx') k)))
def yD (D : Nat → Bool) (Dl : List (Nat × (Nat → Box))) : Nat → Bool := fun k => D k || inK (Dl.map (·.1)) k
def yS (D : Nat → Bool) (σ : Nat → Nat → Box) (cnt : Nat → Nat) (Dl : List (Nat × (Nat → Box))) : Nat → Nat → Box := fun i k => ov D (σ (cnt i)) (lkB (dL Dl i)) k
theorem y_ov (i : Nat) (bx : Nat → Box) : ov (yD D Dl) (yS D σ cnt Dl i) bx = ov D (σ (cnt i)) (updL (dL Dl i) bx) := by
  funext k
  rw [← ov_updL, dL_keys]
  cases hd : D k with
  | true => rw [ovY (by unfold yD; rw [hd]; rfl) rfl, ovY hd rfl]; unfold yS; exact ovY hd rfl
  | false =>
    cases hk : inK (Dl.map (·.1)) k with
    | true => rw [ovY (by unfold yD; rw [hd, hk]; rfl) rfl, ovN hd rfl]; unfold yS; rw [ovN hd rfl, ovY hk rfl]
    | false => rw [ovN (by unfold yD; rw [hd, hk]; rfl) rfl, ovN hd rfl, ovN hk rfl]
theorem roundsY (hd : DistK (Dl.map (·.1))) (hz : AllP (fun p => D p.1 = false) Dl) (h : RoundsY P B N n l bx ps assign body xs D σ cnt Dl (Dl.map (·.1) ++ El.map (·.1)) kl m brk ex) : Rounds P B N n l bx ps assign body xs (yD D Dl) (inK (El.map (·.1))) (yS D σ cnt Dl) kl m brk ex := by
  intro i v hi hv B' n' lr bx' h1 h2 h3 h4 h5 h6 h7 h8 h9
  rw [y_ov]
  refine h i v hi hv B' n' lr bx' h1 h2 h3 h4 h5 h6 h7 (fun k hk => ?_) (AllP.of fun p hp => ?_) (fun k k1 k2 k3 k4 => h9 k k1 ?_ ?_ k4)
  · rw [h8 k (by unfold yD; rw [hk]; rfl)]; unfold yS; exact ovY hk rfl
  · obtain ⟨q, hq, rfl⟩ := List.mem_map.1 hp
    have hq1 : inK (Dl.map (·.1)) q.1 = true := inK_mem (List.mem_map.2 ⟨q, hq, rfl⟩)
    show bx' q.1 = q.2 i
    rw [h8 q.1 (by unfold yD; rw [hq1, Bool.or_true])]
    unfold yS
    rw [ovN (hz.mem q hq) rfl]
    exact lkB_get (l := dL Dl i) (by rw [dL_keys]; exact hd) (q.1, q.2 i) (List.mem_map.2 ⟨q, hq, rfl⟩)
  · unfold yD; rw [k2, (inK_app (inK_not k3)).1]; rfl
  · exact (inK_app (inK_not k3)).2
theorem runs_rangeY (hB : Outer B) (hg : lko l g = some gv) (hgv : gv = .fn f caps ∨ (gv = .sc (.func (.func f) #[] #[]) ∧ caps = [])) (hf : P.funcs[f]? = some fnn) (hname : (fnn.name == "runtime.NumGoroutine") = false) (hbody : fnn.body.isSome = true)
    (hI : DoesL P f caps xs El pre) (hPr : AllP (fun p => p.1 < n ∧ p.1 ≠ kl ∧ D p.1 = false ∧ AllP (fun q => p.1 ≠ q) (Dl.map (·.1)) ∧ AllP (fun q => p.1 ≠ q) (El.map (·.1)) ∧ bx p.1 = p.2) pre) (hkl : bx kl = .dead) (hkn : kl < n) (hm : m ≤ xs.length) (hbk : brk = true → 1 ≤ m ∧ ∃ c, jmp ex = some c) (hnb : brk = false → m = xs.length ∧ ex = .normal) (hps : ∀ v ∈ xs, v.length = ps.size) (hpN : (ps.toList.all fun p => Nat.blt p N) = true)
    (hdk : DistK (Dl.map (·.1))) (hY : ∀ k, D k = true → k < n ∧ k ≠ kl ∧ AllP (fun q => k ≠ q) (El.map (·.1)) ∧ bx k = σ (cnt 0) k) (hDk : AllP (fun p => D p.1 = false ∧ p.1 < n ∧ p.1 ≠ kl ∧ AllP (fun k => p.1 ≠ k) (El.map (·.1)) ∧ bx p.1 = p.2 0) Dl) (hEk : AllP (fun p => p.1 < n ∧ p.1 ≠ kl ∧ bx p.1 = p.2.1) El)
    (hσ : ∀ i, i ≤ m → ∀ k, D k = true → BdB n (σ (cnt i) k)) (hσl : ∀ i, AllP (fun p => BdB n (p.2 i)) Dl) (hEb : AllP (fun p => BdB n (p.2.2 m brk)) El)
    (hro : RoundsY P B N n l bx ps assign body xs D σ cnt Dl (Dl.map (·.1) ++ El.map (·.1)) kl m brk ex) (hQ : ∀ bb bx2, bx2 = upd (ov D (σ (cnt m)) (updL (dL Dl m) (updL (eM El m brk) bx))) kl bb → Q ex ⟨mk l, n, bx2⟩) : Runs P B N (.rangeFunc g ps assign body) ⟨mk l, n, bx⟩ Q := by
  have hI' : DoesI P f caps xs (inK (El.map (·.1))) (lkB (eL El)) (fun m b => lkB (eM El m b)) pre := hI
  have hPr' : ∀ p ∈ pre, p.1 < n ∧ p.1 ≠ kl ∧ yD D Dl p.1 = false ∧ inK (El.map (·.1)) p.1 = false ∧ bx p.1 = p.2 := fun p hp => by
    obtain ⟨q1, q2, q0, q3, q4, q5⟩ := hPr.mem p hp
    exact ⟨q1, q2, by unfold yD; rw [q0, inK_not q3]; rfl, inK_not q4, q5⟩
  have hz : AllP (fun p => D p.1 = false) Dl := AllP.imp (fun _ h => h.1) hDk
  refine runs_range (xs := xs) (Dc := yD D Dl) (E := inK (El.map (·.1))) (e0 := lkB (eL El)) (eF := fun m b => lkB (eM El m b)) (σ := yS D σ cnt Dl) hB hg hgv hf hname hbody hI' hPr' hkl hkn hm hbk hnb hps (fun p hp => ?_) (fun k hk => ?_) (fun k hk => ?_) (fun i hi k hk => ?_) (fun k hk => ?_) (roundsY hdk hz hro) (fun bb => hQ bb _ ?_)
  · have := List.all_eq_true.1 hpN p hp
    exact Nat.blt_eq.mp this
  · cases hd : D k with
    | true =>
      obtain ⟨a1, a2, a3, a4⟩ := hY k hd
      exact ⟨a1, a2, inK_not a3, by rw [a4]; unfold yS; exact (ovY hd rfl).symm⟩
    | false =>
      have hk1 : inK (Dl.map (·.1)) k = true := by unfold yD at hk; rw [hd, Bool.false_or] at hk; exact hk
      have h0 : AllP (fun q : Nat × Box => q.1 < n ∧ q.1 ≠ kl ∧ AllP (fun k => q.1 ≠ k) (El.map (·.1)) ∧ bx q.1 = q.2) (dL Dl 0) := AllP.map (AllP.imp (fun _ h => h.2) hDk)
      have hk' : inK ((dL Dl 0).map (·.1)) k = true := by rw [dL_keys]; exact hk1
      have := lkB_all (p := fun k b => k < n ∧ k ≠ kl ∧ AllP (fun j => k ≠ j) (El.map (·.1)) ∧ bx k = b) h0 hk'
      exact ⟨this.1, this.2.1, inK_not this.2.2.1, by rw [this.2.2.2]; unfold yS; exact (ovN hd rfl).symm⟩
  · have h0 : AllP (fun q : Nat × Box => q.1 < n ∧ q.1 ≠ kl ∧ bx q.1 = q.2) (eL El) := AllP.map hEk
    have hk' : inK ((eL El).map (·.1)) k = true := by rw [eL_keys]; exact hk
    exact lkB_all (p := fun k b => k < n ∧ k ≠ kl ∧ bx k = b) h0 hk'
  · unfold yS
    cases hd : D k with
    | true => rw [ovY hd rfl]; exact hσ i hi k hd
    | false =>
      rw [ovN hd rfl]
      have hk1 : inK (Dl.map (·.1)) k = true := by unfold yD at hk; rw [hd, Bool.false_or] at hk; exact hk
      have h0 : AllP (fun q : Nat × Box => BdB n q.2) (dL Dl i) := AllP.map (hσl i)
      have hk' : inK ((dL Dl i).map (·.1)) k = true := by rw [dL_keys]; exact hk1
      exact lkB_all (p := fun k b => BdB n b) h0 hk'
  · have h0 : AllP (fun q : Nat × Box => BdB n q.2) (eM El m brk) := AllP.map hEb
    have hk' : inK ((eM El m brk).map (·.1)) k = true := by rw [eM_keys]; exact hk
    exact lkB_all (p := fun k b => BdB n b) h0 hk'
  · congr 1
    rw [y_ov, ← ov_updL (eM El m brk), eM_keys]
/-- A range within a round, told by lists. -/
theorem runs_rangeLR {k0 lr0 : Nat} {r0 : Loop} (hBR : B.R = some lr0) (hb0 : B.c.bl k0 = lr0) (hb1 : (B.c.bx k0).is) (hb2 : bx k0 = .obj (.loop r0)) (hg : lko l g = some gv) (hgv : gv = .fn f caps ∨ (gv = .sc (.func (.func f) #[] #[]) ∧ caps = [])) (hf : P.funcs[f]? = some fnn) (hname : (fnn.name == "runtime.NumGoroutine") = false) (hbody : fnn.body.isSome = true)
    (hI : DoesL P f caps xs El pre) (hPr : AllP (fun p => p.1 < n ∧ p.1 ≠ kl ∧ AllP (fun q => p.1 ≠ q) (Dl.map (·.1)) ∧ AllP (fun q => p.1 ≠ q) (El.map (·.1)) ∧ bx p.1 = p.2) pre) (hkl : bx kl = .dead) (hkn : kl < n) (hm : m ≤ xs.length) (hbk : brk = true → 1 ≤ m ∧ ∃ c, jmp ex = some c) (hnb : brk = false → m = xs.length ∧ ex = .normal) (hps : ∀ v ∈ xs, v.length = ps.size) (hpN : (ps.toList.all fun p => Nat.blt p N) = true)
    (hdk : DistK (Dl.map (·.1))) (hDk : AllP (fun p => p.1 < n ∧ p.1 ≠ kl ∧ AllP (fun k => p.1 ≠ k) (El.map (·.1)) ∧ bx p.1 = p.2 0) Dl) (hEk : AllP (fun p => p.1 < n ∧ p.1 ≠ kl ∧ bx p.1 = p.2.1) El) (hσ : ∀ i, AllP (fun p => BdB n (p.2 i)) Dl) (hEb : AllP (fun p => BdB n (p.2.2 m brk)) El)
    (hro : RoundsL' P B N n l bx ps assign body xs Dl (Dl.map (·.1) ++ El.map (·.1)) kl m brk ex) (hQ : ∀ bb bx2, bx2 = upd (updL (dL Dl m) (updL (eM El m brk) bx)) kl bb → Q ex ⟨mk l, n, bx2⟩) : Runs P B N (.rangeFunc g ps assign body) ⟨mk l, n, bx⟩ Q := by
  have hI' : DoesI P f caps xs (inK (El.map (·.1))) (lkB (eL El)) (fun m b => lkB (eM El m b)) pre := hI
  have hPr' : ∀ p ∈ pre, p.1 < n ∧ p.1 ≠ kl ∧ inK (Dl.map (·.1)) p.1 = false ∧ inK (El.map (·.1)) p.1 = false ∧ bx p.1 = p.2 := fun p hp => by
    obtain ⟨q1, q2, q3, q4, q5⟩ := hPr.mem p hp
    exact ⟨q1, q2, inK_not q3, inK_not q4, q5⟩
  refine runs_rangeR (xs := xs) (Dc := inK (Dl.map (·.1))) (E := inK (El.map (·.1))) (e0 := lkB (eL El)) (eF := fun m b => lkB (eM El m b)) (σ := fun i => lkB (dL Dl i)) hBR hb0 hb1 hb2 hg hgv hf hname hbody hI' hPr' hkl hkn hm hbk hnb hps (fun p hp => ?_) (fun k hk => ?_) (fun k hk => ?_) (fun i _ k hk => ?_) (fun k hk => ?_) (roundsL hdk hro) (fun bb => hQ bb _ ?_)
  · have := List.all_eq_true.1 hpN p hp
    exact Nat.blt_eq.mp this
  · have h0 : AllP (fun q : Nat × Box => q.1 < n ∧ q.1 ≠ kl ∧ AllP (fun k => q.1 ≠ k) (El.map (·.1)) ∧ bx q.1 = q.2) (dL Dl 0) := AllP.map hDk
    have hk' : inK ((dL Dl 0).map (·.1)) k = true := by rw [dL_keys]; exact hk
    have := lkB_all (p := fun k b => k < n ∧ k ≠ kl ∧ AllP (fun j => k ≠ j) (El.map (·.1)) ∧ bx k = b) h0 hk'
    exact ⟨this.1, this.2.1, inK_not this.2.2.1, this.2.2.2⟩
  · have h0 : AllP (fun q : Nat × Box => q.1 < n ∧ q.1 ≠ kl ∧ bx q.1 = q.2) (eL El) := AllP.map hEk
    have hk' : inK ((eL El).map (·.1)) k = true := by rw [eL_keys]; exact hk
    exact lkB_all (p := fun k b => k < n ∧ k ≠ kl ∧ bx k = b) h0 hk'
  · have h0 : AllP (fun q : Nat × Box => BdB n q.2) (dL Dl i) := AllP.map (hσ i)
    have hk' : inK ((dL Dl i).map (·.1)) k = true := by rw [dL_keys]; exact hk
    exact lkB_all (p := fun k b => BdB n b) h0 hk'
  · have h0 : AllP (fun q : Nat × Box => BdB n q.2) (eM El m brk) := AllP.map hEb
    have hk' : inK ((eM El m brk).map (·.1)) k = true := by rw [eM_keys]; exact hk
    exact lkB_all (p := fun k b => BdB n b) h0 hk'
  · congr 1
    rw [← ov_updL, dL_keys, ← ov_updL, eM_keys]
end
end Go.Vm

