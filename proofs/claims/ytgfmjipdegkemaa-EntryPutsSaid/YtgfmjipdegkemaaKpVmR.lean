/- A logic of values over the model. Part R: a function that defers one call of a closure. -/
import Derived.Test.YtgfmjipdegkemaaKpVmP
import Derived.Defers
set_option linter.unusedVariables false
set_option linter.unusedSimpArgs false
namespace Go.Vm
/-- What a deferred call leaves, and what it sets. -/
def DoesD (P : Program) (f : FuncId) (vs : List V) (pre up : List (Nat × Box)) : Prop :=
  ∀ n X (args : Array Value), R n X → RowRep X vs args.toList → (∀ p ∈ pre, X.bx p.1 = p.2) → (∀ p ∈ up, p.1 < n) →
    CallsD P f args .returning X.w fun e u' w' => u' = .returning ∧ ∃ X' u, e = .returned u ∧ X'.bx = upds X.bx up ∧ R n X' ∧ Ext X X' ∧ X'.w = w'
/-- A function's end with one deferred call of closure f still to run. -/
def EscD (P : Program) (n : Nat) (X0 : Ctx) (N : Nat) (up : List (Nat × Box)) (r : V) (rs : List ResultVar) (a : Act) (w : World) : Prop :=
  ∃ (s : S) (X : Ctx) (f : FuncId) (fn : Func) (us : List Value) (vs : List V) (preD upD : List (Nat × Box)), St ⟨X0, [{ target := .fn (.func f) us.toArray, args := #[] }], fun _ _ => False⟩ N s X a ∧ X.w = w ∧ RowRep X vs us ∧
    P.funcs[f]? = some fn ∧ (fn.name == "runtime.NumGoroutine") = false ∧ fn.body.isSome = true ∧ DoesD P f vs preD upD ∧ (∀ p ∈ preD, s.bx p.1 = p.2) ∧ (∀ p ∈ upD, p.1 < s.n) ∧ Fin P n X0.bx up r rs ⟨s.t, s.n, upds s.bx upD⟩
/-- The end of a function: what it leaves, told as its contract tells it. -/
theorem fin_end {P : Program} {n N : Nat} {X : Ctx} {B : Bas} {fn : Func} {up : List (Nat × Box)} {r : V} {s' : S} {X' : Ctx} {a' : Act} (hR : R n X) (hup : ∀ p ∈ up, p.1 < n) (hB : B.c = X) (hs' : St B N s' X' a') (hfin : Fin P n X.bx up r fn.results.toList s') :
    ∃ v, (results fn a'.tmps).run P X'.w = .ok v X'.w ∧ ∃ X3 u', Ending.returned v = .returned u' ∧ VRep X3 r u' ∧ X3.bx = upds X.bx up ∧ R n X3 ∧ Ext X X3 ∧ X3.w = X'.w := by
  obtain ⟨⟨vs', hres, hle, hrb⟩, hbx', hupb, hupg⟩ := hfin
  have hbx : ∀ k cs, X.bx k = .cells cs → bdL n cs := fun k cs hk => by obtain ⟨_, us, _, _, h3, _⟩ := hR.box k cs hk; exact RowRep.bd hR _ _ h3
  have hgx : ∀ k v e rows, X.bx k = .gcells v e rows → bdR n rows := fun k v e rows hk => by
    obtain ⟨g1, g2⟩ := hR.gbox k v e rows hk
    rcases g2 with rfl | ⟨_, us, _, _, _, h3, _⟩
    · simp [bdR]
    · exact bdR_flat (RowRep.bd hR _ _ h3)
  obtain ⟨u, hru, hvu⟩ := results_run (fn := fn) hs' hres
  let X2 : Ctx := { X' with bx := fun k => if k < n then upds X.bx up k else .dead }
  have hX2u : ∀ k, k < n → X2.bx k = upds X.bx up k := fun k hk => if_pos hk
  have hX2 : ∀ k, k < n → SameK (X'.bx k) (X2.bx k) := fun k hk => by rw [hX2u k hk, hs'.bx]; exact (hbx' k hk).same
  have hb2 : X2.bx = upds X.bx up := by
    funext k
    by_cases hk : k < n
    · rw [hX2u k hk]
    · show (if k < n then _ else _) = _
      rw [if_neg hk, upds_not _ _ _ (fun p hp e => hk (by have := hup p hp; omega)), hR.dead k (by omega)]
  have hbd2 : ∀ k cs, X2.bx k = .cells cs → bdL n cs := by
    intro k cs hk
    rw [hb2] at hk
    rcases upds_mem up X.bx k with h1 | ⟨p, h1, h2, h3⟩
    · exact hbx k cs (h1 ▸ hk)
    · exact hupb p h1 cs (h3 ▸ hk)
  have hbg2 : ∀ k v e rows, X2.bx k = .gcells v e rows → bdR n rows := by
    intro k v e rows hk
    rw [hb2] at hk
    rcases upds_mem up X.bx k with h1 | ⟨p, h1, h2, h3⟩
    · exact hgx k v e rows (h1 ▸ hk)
    · exact hupg p h1 v e rows (h3 ▸ hk)
  have hR2 : R n X2 := by
    refine ⟨fun k hk => if_neg (by omega), hs'.rr.free, fun k cs hk => ?_, fun k v e rows hk => ?_⟩
    rotate_left
    · have hkn : k < n := by
        apply Nat.lt_of_not_le
        intro hn
        have : X2.bx k = .dead := if_neg (by omega)
        rw [this] at hk; cases hk
      have hle := hbx' k hkn
      rw [← hX2u k hkn, hk] at hle
      have hfull : ∃ rows0, X'.bx k = .gcells v e rows0 ∧ (VLess rows0 rows ∨ rows = []) := by
        rw [hs'.bx]
        rcases hle with h1 | ⟨c0, c1, h1, h2, h3⟩ | ⟨v0, e0, r0, r1, h1, h2, h3⟩
        · exact ⟨rows, h1, .inl (VLess.refl _)⟩
        · cases h2
        · cases h2; exact ⟨r0, h1, h3⟩
      obtain ⟨rows0, h0, hrow⟩ := hfull
      obtain ⟨g1, g2⟩ := hs'.rr.gbox k v e rows0 h0
      rcases hrow with hrow | rfl
      · refine ⟨hrow.lens g1, ?_⟩
        rcases g2 with rfl | ⟨j1, us, rest, ty, j2, j3, j4, j5⟩
        · cases hrow; exact .inl rfl
        · exact .inr ⟨j1, us, rest, ty, j2, RowRep.cut (X := X') (X' := X2) rfl rfl rfl hX2 _ _ (bdL_flat (hbg2 k v e rows hk)) (hrow.flat.row j3), by rw [j4, hrow.length], j5⟩
      · exact ⟨by simp, .inl rfl⟩
    have hkn : k < n := by
      apply Nat.lt_of_not_le
      intro hn
      have : X2.bx k = .dead := if_neg (by omega)
      rw [this] at hk; cases hk
    have hle := hbx' k hkn
    rw [← hX2u k hkn, hk] at hle
    have hfull : ∃ cs0, X'.bx k = .cells cs0 ∧ ∀ us, RowRep X' cs0 us → RowRep X' cs us := by
      rw [hs'.bx]
      rcases hle with h1 | ⟨c0, c1, h1, h2, h3⟩ | ⟨v0, e0, r0, r1, h1, h2, h3⟩
      · exact ⟨cs, h1, fun _ h => h⟩
      · cases h2; exact ⟨c0, h1, fun _ h => h3.row h⟩
      · cases h2
    obtain ⟨cs0, h0, hrow⟩ := hfull
    obtain ⟨h1, us, ty, h2, h3, h4⟩ := hs'.rr.box k cs0 h0
    exact ⟨h1, us, ty, h2, RowRep.cut (X := X') (X' := X2) rfl rfl rfl hX2 _ _ (hbd2 k cs hk) (hrow _ h3), h4⟩
  have he2 : Ext X X2 := by
    have e := hB ▸ hs'.ext
    refine ⟨e.stb, fun k hk => ?_, fun k m hk => ?_, e.frz, fun k v e0 rows hk => ?_, e.os, e.tape, e.output, e.size⟩
    · have hkn := is_lt hR hk
      exact ⟨(hX2 k hkn).1 (e.box k hk).1, (e.box k hk).2⟩
    · have hkn : k < n := by
        apply Nat.lt_of_not_le
        intro hn
        rw [hR.dead k hn] at hk; cases hk
      obtain ⟨m', h1, h2, h3⟩ := e.tail k m hk
      exact ⟨m', (hX2 k hkn).2.1 m' h1, h2, h3⟩
    · have hkn : k < n := by
        apply Nat.lt_of_not_le
        intro hn
        rw [hR.dead k hn] at hk; cases hk
      obtain ⟨v', rows', h1, h2, h3⟩ := e.gc k v e0 rows hk
      obtain ⟨rows2, h4⟩ := (hX2 k hkn).2.2 v' e0 rows' h1
      exact ⟨v', rows2, h4, h2, h3⟩
  exact ⟨u, hru, X2, u, rfl, VRep.cut (X := X') (X' := X2) rfl rfl rfl hX2 _ _ hrb (hle _ _ hvu), hb2, hR2, he2, rfl⟩
theorem does_defer {P : Program} {f : FuncId} {fn : Func} {c : Code} {vs : List V} {pre up : List (Nat × Box)} {r : V} {l : List (Nat × V)} (m : Nat) (hf : P.funcs[f]? = some fn) (hb : fn.body = some c) (hl : Nat.ble vs.length fn.ntmps = true) (hl' : (vs.zipIdx.map fun p => (p.2, p.1)) = l)
    (h : ∀ n X0, (∀ k, n ≤ k → X0.bx k = .dead) → PreOK X0.bx pre → UpLt n up → bdL n vs →
      Runs P ⟨X0, [], EscD P n X0 fn.ntmps up r fn.results.toList⟩ fn.ntmps c ⟨mk l, n + m, X0.bx⟩ (fun e s => (e = .normal ∨ e = .ret) ∧ Fin P n X0.bx up r fn.results.toList s)) : Does P f vs pre up r := by
  intro n X args hR hargs hpre hup
  refine calls_of_wp_defers hf hb ?_
  have hlen : args.size = vs.length := by have := hargs.length; simpa using this.symm
  have hl := Nat.le_of_ble_eq_true hl
  have hst : St ⟨X, [], EscD P n X fn.ntmps up r fn.results.toList⟩ fn.ntmps ⟨fun i => vs.getD i .junk, n, X.bx⟩ X { tmps := args ++ Array.replicate (fn.ntmps - args.size) undef, defers := [] } := by
    refine ⟨hR, rfl, fun i => ?_, ?_, rfl, Ext.refl X⟩
    · have := getD_rep vs args.toList (fn.ntmps - args.size) i hargs
      simpa [List.getD_eq_getElem?_getD, Array.getElem?_append, List.getElem?_append, Array.getElem?_replicate, List.getElem?_replicate] using this
    · simp; omega
  have hrun := h n X hR.dead (pre_of hpre) (UpLt.of hup) (RowRep.bd hR _ _ hargs)
  have hrun2 := runs_weak (s := ⟨fun i => vs.getD i .junk, n, X.bx⟩) (t' := mk l) (n' := n + m) (fun i => ?hm) (Nat.le_add_right _ _) hrun
  case hm =>
    subst hl'
    have key : ∀ (vs : List V) (k i : Nat), VLe (vs.getD i .junk) (mk ((vs.zipIdx k).map fun p => (p.2, p.1)) (k + i)) := by
      intro vs
      induction vs with
      | nil => intro k i; simp [mk]; exact VLe.refl _
      | cons v vs ih =>
        intro k i
        simp only [List.zipIdx_cons, List.map_cons, mk]
        cases i with
        | zero => show VLe v (upd _ k v k); rw [upd_eq]; exact VLe.refl _
        | succ i =>
          rw [upd_ne _ _ _ _ (by omega)]
          have := ih (k + 1) i
          rw [show k + (i + 1) = k + 1 + i by omega]
          simpa using this
    have := key vs 0 i
    rw [Nat.zero_add] at this
    exact this
  refine wp_mono (hrun2 X _ hst) ?_
  rintro e a' w' (⟨s', X', ⟨he, hfin⟩, rfl, hs'⟩ | ⟨rfl, s', X', g, gn, us, ws, preD, upD, hs', rfl, hrow, hg, hname, hbody, hD, hpreD, hupD, hfin⟩)
  · obtain ⟨v, hr, hv⟩ := fin_end hR hup rfl hs' hfin
    have hd : a'.defers = [] := hs'.defers
    rcases he with rfl | rfl
    · show Leaves P fn a'.tmps _ a'.defers .returning _
      rw [hd]; exact ⟨v, hr, hv⟩
    · show Leaves P fn a'.tmps _ a'.defers .returning _
      rw [hd]; exact ⟨v, hr, hv⟩
  · show Leaves P fn a'.tmps _ a'.defers .returning _
    have hd : a'.defers = [{ target := .fn (.func g) us.toArray, args := #[] }] := hs'.defers
    rw [hd]
    refine leaves_cons (f := g) (args := us.toArray) (by simp) ?_ ?_
    · simp only [invoke]
      rw [callFunc_run hg hname hbody]
      simp
    · refine (hD s'.n X' us.toArray hs'.rr (by simpa using hrow) (fun p hp => by rw [hs'.bx]; exact hpreD p hp) hupD).mono ?_
      rintro e u' w' ⟨rfl, X2, u, rfl, hbx2, hR2, he2, rfl⟩
      have hs2 : St ⟨X, [{ target := .fn (.func g) us.toArray, args := #[] }], fun _ _ => False⟩ fn.ntmps ⟨s'.t, s'.n, upds s'.bx upD⟩ X2 a' :=
        ⟨hR2, by rw [hbx2, hs'.bx], fun i => VRep.mono he2 _ _ (hs'.t i), hs'.N, hs'.defers, hs'.ext.trans he2⟩
      obtain ⟨v, hr, hv⟩ := fin_end hR hup rfl hs2 hfin
      exact ⟨v, hr, hv⟩
where
  pre_of {bx : Nat → Box} : ∀ {pre : List (Nat × Box)}, (∀ p ∈ pre, bx p.1 = p.2) → PreOK bx pre
    | [], h => trivial
    | (k, b) :: l, h => ⟨h (k, b) (List.mem_cons_self ..), pre_of (fun p hp => h p (List.mem_cons_of_mem _ hp))⟩
/-- A deferred closure off its body. -/
theorem doesD_mk {P : Program} {f : FuncId} {fn : Func} {c : Code} {vs : List V} {pre up : List (Nat × Box)} {l : List (Nat × V)} (m : Nat) (hf : P.funcs[f]? = some fn) (hb : fn.body = some c) (hl : Nat.ble vs.length fn.ntmps = true) (hl' : (vs.zipIdx.map fun p => (p.2, p.1)) = l) (hres : fn.results = #[])
    (h : ∀ n B bx, (∀ k, n ≤ k → bx k = .dead) → PreOK bx pre → UpLt n up → bdL n vs → (∀ k cs, bx k = .cells cs → bdL n cs) → (∀ k v e rows, bx k = .gcells v e rows → bdR n rows) →
      Runs P B fn.ntmps c ⟨mk l, n + m, bx⟩ (fun e s => (e = .normal ∨ e = .ret) ∧ Fin P n bx up (.tup []) fn.results.toList s)) : DoesD P f vs pre up := by
  intro n X args hR hargs hpre hup
  have hbx : ∀ k cs, X.bx k = .cells cs → bdL n cs := fun k cs hk => by obtain ⟨_, us, _, _, h3, _⟩ := hR.box k cs hk; exact RowRep.bd hR _ _ h3
  have hgx : ∀ k v e rows, X.bx k = .gcells v e rows → bdR n rows := fun k v e rows hk => by
    obtain ⟨g1, g2⟩ := hR.gbox k v e rows hk
    rcases g2 with rfl | ⟨_, us, _, _, _, h3, _⟩
    · simp [bdR]
    · exact bdR_flat (RowRep.bd hR _ _ h3)
  have hlen : args.size = vs.length := by have := hargs.length; simpa using this.symm
  have hl := Nat.le_of_ble_eq_true hl
  have hst : St (base X) fn.ntmps ⟨fun i => vs.getD i .junk, n, X.bx⟩ X { tmps := args ++ Array.replicate (fn.ntmps - args.size) undef, defers := [] } := by
    refine ⟨hR, rfl, fun i => ?_, ?_, rfl, Ext.refl X⟩
    · have := getD_rep vs args.toList (fn.ntmps - args.size) i hargs
      simpa [List.getD_eq_getElem?_getD, Array.getElem?_append, List.getElem?_append, Array.getElem?_replicate, List.getElem?_replicate] using this
    · simp; omega
  have hrun := h n (base X) X.bx hR.dead (does_defer.pre_of hpre) (UpLt.of hup) (RowRep.bd hR _ _ hargs) hbx hgx
  have hrun2 := runs_weak (s := ⟨fun i => vs.getD i .junk, n, X.bx⟩) (t' := mk l) (n' := n + m) (fun i => ?hm) (Nat.le_add_right _ _) hrun
  case hm =>
    subst hl'
    have key : ∀ (vs : List V) (k i : Nat), VLe (vs.getD i .junk) (mk ((vs.zipIdx k).map fun p => (p.2, p.1)) (k + i)) := by
      intro vs
      induction vs with
      | nil => intro k i; simp [mk]; exact VLe.refl _
      | cons v vs ih =>
        intro k i
        simp only [List.zipIdx_cons, List.map_cons, mk]
        cases i with
        | zero => show VLe v (upd _ k v k); rw [upd_eq]; exact VLe.refl _
        | succ i =>
          rw [upd_ne _ _ _ _ (by omega)]
          have := ih (k + 1) i
          rw [show k + (i + 1) = k + 1 + i by omega]
          simpa using this
    have := key vs 0 i
    rw [Nat.zero_add] at this
    exact this
  refine (callsD_of_wp hf hb (R := fun e w' => ∃ X' u, e = .returned u ∧ X'.bx = upds X.bx up ∧ R n X' ∧ Ext X X' ∧ X'.w = w') ?_).mono (fun e u' w' h => h)
  refine wp_mono (hrun2 X _ hst) ?_
  rintro e a' w' (⟨s', X', ⟨he, hfin⟩, rfl, hs'⟩ | ⟨_, hE⟩)
  · obtain ⟨v, hr, X3, u', h1, h2, h3, h4, h5, h6⟩ := fin_end hR hup rfl hs' hfin
    rcases he with rfl | rfl
    · exact ⟨hs'.defers, v, hr, X3, v, rfl, h3, h4, h5, h6⟩
    · exact ⟨hs'.defers, v, hr, X3, v, rfl, h3, h4, h5, h6⟩
  · exact hE.elim
/-- The region that defers. -/
theorem runs_defer {P : Program} {n N m : Nat} {X0 : Ctx} {up : List (Nat × Box)} {r : V} {rs : List ResultVar} {id : Nat} {o0 o1 : Oper} {y : Code} {l : List (Nat × V)} {bx : Nat → Box} {Q : Exit → S → Prop} {f : FuncId} {fn : Func} {xs : Array Operand} {vs : List V} {d0 : Tmp}
    (ho : o0.op = .makeFunc (.func f) #[] xs) (hd0 : o0.dst = some d0) (hN : Nat.blt d0 N = true) (hg0 : o0.guard = none) (ho1 : o1.op = .defer { callee := .value (.tmp d0), args := #[], argTypes := #[] }) (hd1 : o1.dst = none) (hg1 : o1.guard = none)
    (hvs : lks l xs.toList = some vs) (hf : P.funcs[f]? = some fn) (hname : (fn.name == "runtime.NumGoroutine") = false) (hb : fn.body.isSome = true)
    (h : ∀ B', Runs P B' N y ⟨mk ((d0, .fn f vs) :: l), m, bx⟩ (fun e s => e = .ret ∧ ∃ preD upD, DoesD P f vs preD upD ∧ (∀ p ∈ preD, s.bx p.1 = p.2) ∧ (∀ p ∈ upD, p.1 < s.n) ∧ Fin P n X0.bx up r rs ⟨s.t, s.n, upds s.bx upD⟩)) :
    Runs P ⟨X0, [], EscD P n X0 N up r rs⟩ N (.seq (.region id #[o0, o1] false) y) ⟨mk l, m, bx⟩ Q := by
  intro X a hs
  refine wp_seq ?_
  refine wp_region_list ?_
  refine wpList_plain hg0 fun K hK => ?_
  have hargs : RowRep X vs (xs.toList.map a.eval) := rowRep_map _ _ (evs_mk hvs) (fun x _ => ev_rep hs.t x)
  have hrun0 : (execOp a.eval o0).run P X.w = .ok (.value (.func (.func f) #[] (xs.map a.eval))) X.w := by
    rw [exec_makeFunc ho, Array.map_empty]; rfl
  unfold Oper.wp
  rw [hrun0]
  refine hK _ _ ?_
  rw [hd0]
  refine wpList_plain hg1 fun K1 hK1 => ?_
  have hev : (a.put (some d0) (.func (.func f) #[] (xs.map a.eval))).eval (.tmp d0) = .func (.func f) #[] (xs.map a.eval) := by
    have hlt : d0 < a.tmps.size := by rw [hs.N]; exact Nat.blt_eq ▸ (by simpa using hN)
    simp [Act.put, Act.eval, hlt]
  have hrun1 : (execOp (a.put (some d0) (.func (.func f) #[] (xs.map a.eval))).eval o1).run P X.w = .ok (.defer { target := .fn (.func f) (xs.map a.eval), args := #[] }) X.w := by
    unfold execOp
    rw [ho1]
    have e1 : resolve (a.put (some d0) (.func (.func f) #[] (xs.map a.eval))).eval { callee := .value (.tmp d0), args := #[], argTypes := #[] } o1.type = Deferred.ofValue ((a.put (some d0) (.func (.func f) #[] (xs.map a.eval))).eval (.tmp d0)) (Array.map (a.put (some d0) (.func (.func f) #[] (xs.map a.eval))).eval #[]) := rfl
    simp only [e1, hev, Array.map_empty, Sem.run_bind]
    rfl
  unfold Oper.wp
  rw [hrun1, Oper.upon_defer]
  refine hK1 _ _ ?_
  refine wpList_nil ?_
  rw [hd1]
  have hus : xs.map a.eval = (xs.toList.map a.eval).toArray := by apply Array.toList_inj.1; rw [Array.toList_map]
  have hst' : St ⟨X, [{ target := .fn (.func f) (xs.toList.map a.eval).toArray, args := #[] }], fun _ _ => False⟩ N ⟨mk ((d0, .fn f vs) :: l), m, bx⟩ X { (a.put (some d0) (.func (.func f) #[] (xs.map a.eval))) with defers := { target := .fn (.func f) (xs.map a.eval), args := #[] } :: (a.put (some d0) (.func (.func f) #[] (xs.map a.eval))).defers } := by
    have h1 := hs.put (X' := X) (u := .func (.func f) #[] (xs.map a.eval)) (v := .fn f vs) (dst := some d0) (up := []) hN hs.rr rfl (Ext.refl X) (by simp only [VRep]; exact ⟨_, by rw [hus], hargs⟩)
    refine ⟨h1.rr, h1.bx, h1.t, h1.N, ?_, Ext.refl X⟩
    have h2 : (a.put (some d0) (.func (.func f) #[] (xs.map a.eval))).defers = [] := h1.defers
    show _ :: (a.put (some d0) (.func (.func f) #[] (xs.map a.eval))).defers = _
    rw [h2, hus]
  have h3 := h ⟨X, [{ target := .fn (.func f) (xs.toList.map a.eval).toArray, args := #[] }], fun _ _ => False⟩ X _ hst'
  refine wp_mono h3 ?_
  rintro e a' w' (⟨s', X', ⟨rfl, preD, upD, q1, q2, q3, q4⟩, rfl, hs'⟩ | ⟨_, hE⟩)
  · exact .inr ⟨rfl, s', X', f, fn, xs.toList.map a.eval, vs, preD, upD, ⟨hs'.rr, hs'.bx, hs'.t, hs'.N, hs'.defers, hs.ext.trans hs'.ext⟩, rfl, RowRep.mono hs'.ext _ _ hargs, hf, hname, hb, q1, q2, q3, q4⟩
  · exact hE.elim
end Go.Vm
