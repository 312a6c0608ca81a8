/- A logic of values over the model. Part U: the call of yield; the loop over an iterator. -/
import Derived.Test.YthpkhecialkmmaaKeVmS
set_option linter.unusedVariables false
set_option linter.unusedSimpArgs false
namespace Go.Vm
theorem St.put2 {B : Bas} {N : Nat} {s : S} {X X' : Ctx} {a : Act} {v : V} {u : Value} {bx' : Nat → Box} {n' : Nat} {dst : Option Tmp} (hs : St B N s X a) (hd : okDst N dst = true) (hR : R n' X') (hb : X'.bx = bx') (he : Ext X X') (hv : VRep X' v u) :
    St B N ⟨putS s.t dst v, n', bx'⟩ X' (a.put dst u) := by
  refine ⟨hR, hb, fun i => ?_, ?_, ?_, hs.ext.trans he⟩
  · cases dst with
    | none => exact VRep.mono he _ _ (hs.t i)
    | some d =>
      have hd' : d < a.tmps.size := by rw [hs.N]; exact Nat.blt_eq ▸ (by simpa [okDst] using hd)
      simp only [putS, Act.put]
      by_cases hi : i = d
      · subst hi
        rw [upd_eq]
        simpa [hd'] using hv
      · rw [upd_ne _ _ _ _ hi]
        have := VRep.mono he _ _ (hs.t i)
        simpa [Array.getElem?_setIfInBounds_ne (Ne.symm hi)] using this
  · cases dst <;> simp [Act.put, hs.N]
  · exact hs.defers.mono he (put_defers _ _ _)
theorem roundIn_any {P : Program} {l : Nat} {f : FuncId} {tmps : Array Value} {assign body : Code} {w : World} {Rr : Ending → World → Prop} (r : Option Nat) (n n' : Nat) (h : RoundIn Fence.wide n P l f tmps assign body w Rr) : RoundIn (fen r) n' P l f tmps assign body w Rr :=
  ⟨trivial, fun c cs _ => h.2 c cs (room_wide _)⟩
theorem wanted_of {N : Nat} {ops : Array Oper} {l : List (Nat × V)} {o : Oper} {B : Bas} {n : Nat} {bx : Nat → Box} {X : Ctx} {a : Act} (hG : GuardOK N ops l o) (hst : St B N ⟨mk l, n, bx⟩ X a) : Region.wanted o (yielded ops a.tmps) = true := by
  rcases hG with hg | ⟨j, w, g, d, b, h1, h2, h3, h4, h5, h6⟩
  · simp [Region.wanted, hg]
  · have hv := hst.t d
    simp only at hv
    rw [lk_mk h4] at hv
    simp only [VRep] at hv
    have hdN' : d < a.tmps.size := by rw [hst.N]; exact Nat.blt_eq ▸ (by simpa using h5)
    have hy : yielded ops a.tmps j = some b := by
      have e1 : a.tmps[d]? = some (.bool b) := by
        rw [Array.getElem?_eq_getElem hdN']
        have : a.tmps.getD d undef = a.tmps[d] := by simp [hdN']
        rw [← this, hv]
      simp [yielded, h2, h3, e1]
    simp only [Region.wanted, h1, hy]
    cases b <;> cases w <;> simp_all
/-- The call of a loop's yield. -/
theorem rl_yield {P : Program} {B : Bas} {N n : Nat} {bx : Nat → Box} {Q : Exit → S → Prop} {ops : Array Oper} {L : List Oper} {l : List (Nat × V)} {o : Oper} {d ll n0 : Nat} {y : Operand} {xs : Array Operand} {tys : Array TypeId} {Xb : Ctx} {vs vs' : List V} {D E : Nat → Bool} {f g : Nat → Box} {b : Bool}
    (hG : GuardOK N ops l o) (hd : o.dst = some d) (hN : Nat.blt d N = true) (ho : o.op = .call { callee := .value y, args := xs, argTypes := tys }) (hy : lko l y = some (.sc (.func (.yield ll) #[] #[]))) (hvs : lks l xs.toList = some vs) (hl : VLes vs vs')
    (hY : DoesY P Xb ll n0 vs' D E f g b) (hX : Ext Xb B.c) (hn : n0 ≤ n) (hD : ∀ k, D k = true → k < n ∧ bx k = f k) (hE : ∀ k, k < n0 → D k = false → E k = false → bx k = Xb.bx k) (h : RunsL P B N ops L ⟨mk ((d, .sc (.bool b)) :: l), n, ov D g bx⟩ Q) : RunsL P B N ops (o :: L) ⟨mk l, n, bx⟩ Q := by
  intro X a hst
  refine wpListIn_step fun K hK => ?_
  rw [if_pos (wanted_of hG hst)]
  have hargs : RowRep X vs (xs.toList.map a.eval) := rowRep_map _ _ (evs_mk hvs) (fun x _ => ev_rep hst.t x)
  obtain ⟨fn, tmps, assign, body, hy1, hy2⟩ := hY n X (xs.toList.map a.eval) hn hst.rr (hX.trans hst.ext) (hl.row hargs) (fun k hk => by rw [show X.bx = bx from hst.bx]; exact hD k hk) (fun k h1 h2 h3 => by rw [show X.bx = bx from hst.bx]; exact hE k h1 h2 h3)
  have hyv : a.eval y = .func (.yield ll) #[] #[] := by
    have := ev_rep hst.t y
    rw [show ev (⟨mk l, n, bx⟩ : S).t y = _ from ev_mk hy] at this
    simpa only [VRep] using this
  have hxs : xs.map a.eval = (xs.toList.map a.eval).toArray := by apply Array.toList_inj.1; rw [Array.toList_map]
  have hrun : (o.semAt (fen B.R).round a.eval).run P X.w = .ok (.round ll fn tmps assign body) X.w := by
    have e0 : o.semAt (fen B.R).round a.eval = execOp a.eval o := by
      cases hr : (fen B.R).round with
      | none => exact Oper.semAt_none _ _
      | some q => exact Oper.semAt_some q _ _ (fun c hc => by rw [ho] at hc; cases hc)
    rw [e0, exec_call ho]
    have e1 : resolve a.eval { callee := .value y, args := xs, argTypes := tys } o.type = Deferred.ofValue (a.eval y) (xs.map a.eval) := rfl
    rw [e1, hyv]
    have e2 : (Deferred.ofValue (.func (.yield ll) #[] #[]) (xs.map a.eval) : Sem Deferred) = pure { target := .fn (.yield ll) #[], args := #[] ++ xs.map a.eval } := rfl
    rw [e2]
    simp only [Sem.run_bind, Sem.run_pure, Result.andThen_ok, invoke]
    rw [Array.empty_append, hxs, hy1]
  refine ⟨fun _ _ => trivial, ?_⟩
  rw [hrun]
  refine ⟨(fun h => by cases h), roundIn_any _ 0 _ (hy2.mono ?_)⟩
  rintro e w' ⟨rfl, X', rfl, x2, x3, x4⟩
  refine hK _ _ (h X' _ ?_)
  rw [hd]
  exact hst.put2 (dst := some d) (v := .sc (.bool b)) (u := .bool b) hN x3 (by rw [x2, show X.bx = bx from hst.bx]) x4 (by simp [VRep])
/-- The temporaries of a round: the loop's own, with what yield was handed. -/
def zipps : List Tmp → List V → List (Nat × V) → List (Nat × V)
  | p :: ps, v :: vs, l => zipps ps vs ((p, v) :: l)
  | _, _, l => l
theorem zip_rep {X : Ctx} {N : Nat} : ∀ (ps : List Tmp) (vs : List V) (us : List Value) (l : List (Nat × V)) (tm : Array Value), RowRep X vs us → ps.length = vs.length → (∀ p ∈ ps, p < N) → tm.size = N → (∀ i, VRep X (mk l i) (tm.getD i undef)) →
    ((ps.zip us).foldl (fun t (p, v) => t.setIfInBounds p v) tm).size = N ∧ ∀ i, VRep X (mk (zipps ps vs l) i) (((ps.zip us).foldl (fun t (p, v) => t.setIfInBounds p v) tm).getD i undef)
  | [], [], us, l, tm, hr, _, _, hN, ht => by simp only [RowRep] at hr; subst hr; exact ⟨hN, ht⟩
  | [], v :: vs, us, l, tm, hr, hl, _, hN, ht => by simp at hl
  | p :: ps, [], us, l, tm, hr, hl, _, hN, ht => by simp at hl
  | p :: ps, v :: vs, us, l, tm, hr, hl, hp, hN, ht => by
    simp only [RowRep] at hr
    obtain ⟨u, us', rfl, h1, h2⟩ := hr
    have hpN := hp p (List.mem_cons_self ..)
    refine zip_rep ps vs us' ((p, v) :: l) (tm.setIfInBounds p u) h2 (by simpa using hl) (fun q hq => hp q (List.mem_cons_of_mem _ hq)) (by simp [hN]) (fun i => ?_)
    simp only [mk]
    by_cases hi : i = p
    · subst hi; rw [upd_eq]; simpa [hN, hpN] using h1
    · rw [upd_ne _ _ _ _ hi]
      have := ht i
      simpa [Array.getElem?_setIfInBounds_ne (Ne.symm hi)] using this
/-- The jump that a round's end asks for. -/
def jmp : Exit → Option Code
  | .ret => some .ret
  | .exit id => some (.exit id)
  | _ => none
/-- What is asked of the rounds of a loop over an iterator. -/
def Rounds (P : Program) (B : Bas) (N n : Nat) (l : List (Nat × V)) (bx : Nat → Box) (ps : Array Tmp) (assign body : Code) (xs : List (List V)) (Dc E : Nat → Bool) (σ : Nat → Nat → Box) (kl m : Nat) (brk : Bool) (ex : Exit) : Prop :=
  ∀ i v, i < m → xs[i]? = some v → ∀ (B' : Bas) (n' lr : Nat) (bx' : Nat → Box), B'.R = some lr → B'.c.bl kl = lr → B'.c.bx kl = bx' kl → (∃ r0, bx' kl = .obj (.loop r0)) → Ext B.c B'.c → n ≤ n' → (∀ k, n' ≤ k → bx' k = .dead) → (∀ k, Dc k = true → bx' k = σ i k) → (∀ k, k < n → Dc k = false → E k = false → k ≠ kl → bx' k = bx k) →
    Runs P B' N assign ⟨mk (zipps ps.toList v l), n', bx'⟩ (fun e s => e = .normal ∧ s.bx kl = bx' kl ∧ ∀ r1, Runs P B' N body ⟨s.t, s.n, upd s.bx kl (.obj (.loop r1))⟩ (fun e s => e = (if brk = true ∧ i + 1 = m then ex else .normal) ∧ s.bx kl = .obj (.loop r1) ∧ ∀ k, k < n' → k ≠ kl → BoxLe (s.bx k) (ov Dc (σ (i + 1)) bx' k)))
/-- What the entries of a loop's caller hold behind so many rounds: its own, and the loop's record. -/
def clF (σ : Nat → Nat → Box) (kl m : Nat) (brk : Bool) (ex : Exit) (r : Loop) (j : Nat) : Nat → Box := fun k => if k = kl then .obj (.loop (if brk = true ∧ j = m then { r with state := .done, pending := jmp ex } else r)) else σ j k
def clD (Dc : Nat → Bool) (kl : Nat) : Nat → Bool := fun k => Dc k || Nat.beq k kl
theorem clD_kl (Dc : Nat → Bool) (kl : Nat) : clD Dc kl kl = true := by simp [clD]
theorem clD_of {Dc : Nat → Bool} {kl k : Nat} (h : Dc k = true) : clD Dc kl k = true := by simp [clD, h]
theorem clD_yes {Dc : Nat → Bool} {kl k : Nat} (h : clD Dc kl k = true) (hk : k ≠ kl) : Dc k = true := by
  unfold clD at h
  rw [Bool.or_eq_true] at h
  exact h.resolve_right fun e => hk (Nat.eq_of_beq_eq_true e)
theorem clD_not {Dc : Nat → Bool} {kl k : Nat} (h : Dc k = false) (hk : k ≠ kl) : clD Dc kl k = false := by
  unfold clD; rw [h, Bool.false_or]
  cases hb : Nat.beq k kl with
  | false => rfl
  | true => exact absurd (Nat.eq_of_beq_eq_true hb) hk
set_option maxHeartbeats 1000000 in
theorem doesY_of {P : Program} {B : Bas} {N n : Nat} {l : List (Nat × V)} {bx : Nat → Box} {ps : Array Tmp} {assign body : Code} {xs : List (List V)} {Dc E : Nat → Bool} {σ : Nat → Nat → Box} {kl m : Nat} {brk : Bool} {ex : Exit}
    (hro : Rounds P B N n l bx ps assign body xs Dc E σ kl m brk ex) (hex : brk = true → ∃ c, jmp ex = some c) {X1 : Ctx} {a : Act} {r : Loop} (hX1 : Ext B.c X1) (ht : ∀ i, VRep X1 (mk l i) (a.tmps.getD i undef)) (hN : a.tmps.size = N)
    (hr1 : r.state = .ready) (hr2 : r.pending = none) (hr3 : r.tmps = a.tmps) (hr4 : r.params = ps) (hr5 : r.assign = assign) (hr6 : r.body = body) (hk1 : X1.bx kl = .obj (.loop r)) (hkn : kl < n) (hb1 : ∀ k, k < n → Dc k = false → E k = false → k ≠ kl → X1.bx k = bx k)
    (hps : ∀ v ∈ xs, v.length = ps.size) (hpN : ∀ p ∈ ps.toList, p < N) (hDk : ∀ k, Dc k = true → k < n ∧ k ≠ kl) (hσ : ∀ i, i ≤ m → ∀ k, Dc k = true → BdB n (σ i k)) (i : Nat) (v : List V) (hi : i < m) (hv : xs[i]? = some v) :
    DoesY P X1 (X1.bl kl) n v (clD Dc kl) E (clF σ kl m brk ex r i) (clF σ kl m brk ex r (i + 1)) (!(brk && Nat.beq (i + 1) m)) := by
  intro n' X args hn hR hE hargs hD hOt
  have hklx : X.bx kl = .obj (.loop r) := by
    rw [(hD kl (clD_kl _ _)).2]
    unfold clF
    rw [if_pos rfl, if_neg (by rintro ⟨_, h⟩; omega)]
  have hbl : X.bl kl = X1.bl kl := (hE.box kl (by rw [hk1]; trivial)).2
  obtain ⟨hO, hh, _⟩ := hR.obj kl _ hklx
  rw [hbl] at hh hO
  have hvl : v.length = ps.size := hps v (List.mem_of_getElem? hv)
  have hal : args.length = ps.size := by rw [← hargs.length]; exact hvl
  refine ⟨_, _, _, _, run_yield hh (by rw [hr4]; simpa using hal), roundIn_of_wpIn trivial ?_⟩
  let B' : Bas := ⟨X, [], fun _ _ => False, some (X1.bl kl), false⟩
  have hzz : (r.params.zip args.toArray).foldl (fun t (p, v) => t.setIfInBounds p v) r.tmps = (ps.toList.zip args).foldl (fun t (p, v) => t.setIfInBounds p v) a.tmps := by
    rw [hr3, hr4, ← Array.foldl_toList]; simp
  have hz := zip_rep ps.toList v args l a.tmps hargs (by simpa using hvl.symm) hpN hN (fun j => VRep.mono hE _ _ (ht j))
  rw [hzz, hr5, hr6]
  have hst : St B' N ⟨mk (zipps ps.toList v l), n', X.bx⟩ X { tmps := (ps.toList.zip args).foldl (fun t (p, v) => t.setIfInBounds p v) a.tmps, defers := [] } :=
    ⟨hR, rfl, hz.2, hz.1, .nil rfl, Ext.refl X⟩
  have h1 := hro i v hi hv B' n' (X1.bl kl) X.bx rfl hbl rfl ⟨r, hklx⟩ (hX1.trans hE) hn hR.dead
    (fun k hk => by rw [(hD k (clD_of hk)).2]; unfold clF; rw [if_neg (hDk k hk).2])
    (fun k k1 k2 k3 k4 => by rw [hOt k k1 (clD_not k2 k4) k3]; exact hb1 k k1 k2 k3 k4) X _ hst
  refine wpIn_mono h1 ?_
  rintro e1 a1 w1 (⟨s1, Xa, ⟨rfl, hka, hbody⟩, rfl, hsa⟩ | ⟨_, hE'⟩)
  rotate_left
  · exact hE'.elim
  have hka' : Xa.bx kl = .obj (.loop r) := by rw [hsa.bx, hka, hklx]
  have hbla : Xa.bl kl = X1.bl kl := ((hsa.ext.box kl (by rw [hklx]; trivial)).2).trans hbl
  obtain ⟨hOa, hha, _⟩ := hsa.rr.obj kl _ hka'
  rw [hbla] at hha hOa
  refine ⟨_, run_beginRound hha hr1, ?_⟩
  obtain ⟨b1, b2⟩ := set_obj (o' := .loop { r with state := .busy }) hsa.rr hka' rfl
  rw [hbla] at b1 b2
  let Xc : Ctx := { Xa with bx := upd Xa.bx kl (.obj (.loop { r with state := .busy })), w := Xa.w.putObj (X1.bl kl) (.loop { r with state := .busy }) }
  have hsc : St B' N ⟨s1.t, s1.n, upd s1.bx kl (.obj (.loop { r with state := .busy }))⟩ Xc a1 :=
    ⟨b1, by show upd Xa.bx kl _ = upd s1.bx kl _; rw [hsa.bx], fun j => VRep.mono b2 _ _ (hsa.t j), hsa.N, hsa.defers.mono b2 rfl, hsa.ext.trans b2⟩
  refine wpIn_mono (hbody { r with state := .busy } Xc a1 hsc) ?_
  have fin : ∀ (s2 : S) (Xd : Ctx) (a2 : Act) (jump : Option Code), St B' N s2 Xd a2 → s2.bx kl = .obj (.loop { r with state := .busy }) → (∀ k, k < n' → k ≠ kl → BoxLe (s2.bx k) (ov Dc (σ (i + 1)) X.bx k)) →
      ({ r with state := if jump.isNone then .ready else .done, pending := jump } : Loop) = (if brk = true ∧ i + 1 = m then { r with state := .done, pending := jmp ex } else r) → (!(brk && Nat.beq (i + 1) m)) = jump.isNone →
      ∃ v w', (Instr.endRound (X1.bl kl) jump).run P Xd.w = .ok v w' ∧ Ending.returned v = .returned (.bool (!(brk && Nat.beq (i + 1) m))) ∧ ∃ X', X'.w = w' ∧ X'.bx = ov (clD Dc kl) (clF σ kl m brk ex r (i + 1)) X.bx ∧ R n' X' ∧ Ext X X' := by
    intro s2 Xd a2 jump hsd hkd hle hrec hb
    have hkd' : Xd.bx kl = .obj (.loop { r with state := .busy }) := by rw [hsd.bx]; exact hkd
    have hbld : Xd.bl kl = X1.bl kl := ((hsd.ext.box kl (by rw [hklx]; trivial)).2).trans hbl
    obtain ⟨_, hhd, _⟩ := hsd.rr.obj kl _ hkd'
    rw [hbld] at hhd
    obtain ⟨d1, d2⟩ := set_obj (o' := .loop (if brk = true ∧ i + 1 = m then { r with state := .done, pending := jmp ex } else r)) hsd.rr hkd' rfl
    rw [hbld] at d1 d2
    obtain ⟨X', x1, _, _, x2, x3, x4, _⟩ := trim hR d1 (hsd.ext.trans d2) (g := ov (clD Dc kl) (clF σ kl m brk ex r (i + 1)) X.bx)
      (fun k hk => ovN (clD_not (by
          cases hd : Dc k with
          | false => rfl
          | true => have := (hDk k hd).1; omega) (by omega)) (hR.dead k hk))
      (fun k cs hk => by
        unfold ov at hk
        cases hd : clD Dc kl k with
        | true =>
          rw [hd] at hk
          unfold clF at hk
          by_cases hkk : k = kl
          · rw [if_pos hkk] at hk; cases hk
          · rw [if_neg hkk] at hk; exact bdL_mono hn _ ((hσ _ hi k (clD_yes hd hkk)).1 cs hk)
        | false => rw [hd] at hk; exact (hR.bdB k).1 cs hk)
      (fun k v e rows hk => by
        unfold ov at hk
        cases hd : clD Dc kl k with
        | true =>
          rw [hd] at hk
          unfold clF at hk
          by_cases hkk : k = kl
          · rw [if_pos hkk] at hk; cases hk
          · rw [if_neg hkk] at hk; exact bdR_mono hn _ ((hσ _ hi k (clD_yes hd hkk)).2 v e rows hk)
        | false => rw [hd] at hk; exact (hR.bdB k).2 v e rows hk)
      (fun k hk => by
        by_cases hkk : k = kl
        · subst hkk
          rw [show ov (clD Dc k) (clF σ k m brk ex r (i + 1)) X.bx k = .obj (.loop (if brk = true ∧ i + 1 = m then { r with state := .done, pending := jmp ex } else r)) from ovY (clD_kl _ _) (by unfold clF; rw [if_pos rfl])]
          left; exact upd_eq _ _ _
        · have h2 := hle k hk hkk
          rw [show ov (clD Dc kl) (clF σ kl m brk ex r (i + 1)) X.bx k = ov Dc (σ (i + 1)) X.bx k by
            cases hd : Dc k with
            | true => exact (ovY (clD_of hd) (by unfold clF; rw [if_neg hkk])).trans (ovY hd rfl).symm
            | false => exact (ovN (clD_not hd hkk) rfl).trans (ovN hd rfl).symm]
          show BoxLe (upd Xd.bx kl _ k) _
          rw [upd_ne _ _ _ _ hkk, hsd.bx]; exact h2)
    refine ⟨_, _, run_endRound jump hhd, by rw [hb], X', ?_, x2, x3, x4⟩
    rw [x1]
    show Xd.w.putObj (X1.bl kl) _ = _
    rw [← hrec]
  rintro e2 a2 w2 (⟨s2, Xd, ⟨he2, hkd, hle⟩, rfl, hsd⟩ | ⟨_, hE'⟩)
  rotate_left
  · exact hE'.elim
  by_cases hlast : brk = true ∧ i + 1 = m
  · rw [if_pos hlast] at he2
    have hb : (!(brk && Nat.beq (i + 1) m)) = false := by rw [hlast.1, hlast.2, Nat.beq_refl]; rfl
    obtain ⟨c, hc⟩ := hex hlast.1
    subst he2
    cases e2 with
    | ret =>
      simp only [jmp] at hc ⊢
      exact fin s2 Xd a2 (some .ret) hsd hkd hle (by rw [if_pos hlast]; rfl) hb
    | exit id => exact fin s2 Xd a2 (some (.exit id)) hsd hkd hle (by rw [if_pos hlast]; rfl) hb
    | _ => simp [jmp] at hc
  · rw [if_neg hlast] at he2
    subst he2
    have hb : (!(brk && Nat.beq (i + 1) m)) = true := by
      cases hbk : brk with
      | false => rfl
      | true =>
        have : i + 1 ≠ m := fun h => hlast ⟨hbk, h⟩
        cases hq : Nat.beq (i + 1) m with
        | false => rfl
        | true => exact absurd (Nat.eq_of_beq_eq_true hq) this
    refine fin s2 Xd a2 none hsd hkd hle ?_ hb
    rw [if_neg hlast]
    show ({ r with state := .ready, pending := none } : Loop) = r
    cases r; simp only at hr1 hr2; subst hr1 hr2; rfl
section
variable {P : Program} {B : Bas} {N n : Nat} {l : List (Nat × V)} {bx : Nat → Box} {Q : Exit → S → Prop} {g : Operand} {ps : Array Tmp} {assign body : Code} {f : FuncId} {caps : List V} {xs : List (List V)} {E : Nat → Bool} {e0 : Nat → Box} {eF : Nat → Bool → Nat → Box} {fnn : Func} {Dc : Nat → Bool} {σ : Nat → Nat → Box} {m : Nat} {brk : Bool} {ex : Exit} {gv : V} {kl : Nat} {pre : List (Nat × Box)}
set_option maxHeartbeats 1000000 in
theorem range_core {X X1 : Ctx} {a : Act} (hs : St B N ⟨mk l, n, bx⟩ X a) (hg : lko l g = some gv) (hgv : gv = .fn f caps ∨ (gv = .sc (.func (.func f) #[] #[]) ∧ caps = [])) (hf : P.funcs[f]? = some fnn) (hname : (fnn.name == "runtime.NumGoroutine") = false) (hbody : fnn.body.isSome = true)
    (hI : DoesI P f caps xs E e0 eF pre) (hPr : ∀ p ∈ pre, p.1 < n ∧ p.1 ≠ kl ∧ Dc p.1 = false ∧ E p.1 = false ∧ bx p.1 = p.2) (hkn : kl < n) (hm : m ≤ xs.length) (hbk : brk = true → 1 ≤ m ∧ ∃ c, jmp ex = some c) (hnb : brk = false → m = xs.length ∧ ex = .normal) (hps : ∀ v ∈ xs, v.length = ps.size) (hpN : ∀ p ∈ ps.toList, p < N)
    (hDk : ∀ k, Dc k = true → k < n ∧ k ≠ kl ∧ E k = false ∧ bx k = σ 0 k) (hEk : ∀ k, E k = true → k < n ∧ k ≠ kl ∧ bx k = e0 k) (hσ : ∀ i, i ≤ m → ∀ k, Dc k = true → BdB n (σ i k)) (hEb : ∀ k, E k = true → BdB n (eF m brk k))
    (hro : Rounds P B N n l bx ps assign body xs Dc E σ kl m brk ex) (hQ : ∀ bb, Q ex ⟨mk l, n, upd (ov Dc (σ m) (ov E (eF m brk) bx)) kl bb⟩)
    {fn : FuncId} {lr : Nat} {mark : List Deferred} {r : Loop} (hen : (Instr.enterLoop fn a.tmps ps assign body (fen B.R).round).run P X.w = .ok (lr, mark) X1.w) (hX1 : Ext X X1) (hR1 : R n X1) (hbx1 : X1.bx = upd bx kl (.obj (.loop r))) (hbl1 : X1.bl kl = lr)
    (hr1 : r.state = .ready) (hr2 : r.pending = none) (hr3 : r.tmps = a.tmps) (hr4 : r.params = ps) (hr5 : r.assign = assign) (hr6 : r.body = body) (hmarks : ∀ X', Ext X1 X' → Marks B X' { a with defers := mark ++ a.defers }) :
    ∃ (l : Nat) (mark : List Deferred) (w₁ : World) (d : Deferred) (w₁' : World) (f : FuncId) (args : Array Value) (w₂ : World),
      (Instr.enterLoop fn a.tmps ps assign body (fen B.R).round).run P X.w = .ok (l, mark) w₁ ∧ (resolve a.eval (rangeCall g l) 0).run P w₁ = .ok d w₁' ∧ (∀ f', Target.leads P w₁' d.target d.args = some f' → (fen B.R).fn f') ∧
      (invoke d.target d.args).run P w₁' = .ok (.enter f args) w₂ ∧ ((fen B.R).depth.isSome = true → 1 ≤ 0) ∧ CallsIn (fen B.R) (0 - 1) P f args w₂ (rangePost (fen B.R) 0 P l (post B N Q) { a with defers := mark ++ a.defers }) := by
  have hgu : ∃ us : List Value, a.eval g = .func (.func f) #[] us.toArray ∧ RowRep X caps us := by
    have h0 := ev_rep hs.t g
    rw [show ev (⟨mk l, n, bx⟩ : S).t g = _ from ev_mk hg] at h0
    rcases hgv with rfl | ⟨rfl, rfl⟩
    · simp only [VRep] at h0; exact h0
    · simp only [VRep] at h0; exact ⟨[], h0, by simp [RowRep]⟩
  obtain ⟨us, hgu, hus⟩ := hgu
  refine ⟨lr, mark, X1.w, { target := .fn (.func f) us.toArray, args := #[.func (.yield lr) #[] #[]] }, X1.w, f, (Value.func (.yield lr) #[] #[] :: us).toArray, X1.w, hen, ?_, fun _ _ => trivial, ?_, (fun h => by cases h), ?_⟩
  · have e1 : resolve a.eval (rangeCall g lr) 0 = Deferred.ofValue (a.eval g) (#[Operand.const (.func (.yield lr) #[] #[])].map a.eval) := rfl
    rw [e1, hgu]
    have e2 : (Deferred.ofValue (.func (.func f) #[] us.toArray) (#[Operand.const (.func (.yield lr) #[] #[])].map a.eval) : Sem Deferred) = pure { target := .fn (.func f) us.toArray, args := #[] ++ #[Operand.const (.func (.yield lr) #[] #[])].map a.eval } := rfl
    rw [e2]
    simp [Sem.run_pure, Act.eval]
  · simp only [invoke]
    rw [callFunc_run hf hname hbody]
    simp
  have hk1 : X1.bx kl = .obj (.loop r) := by rw [hbx1, upd_eq]
  have hne1 : ∀ k, k ≠ kl → X1.bx k = bx k := fun k hk => by rw [hbx1, upd_ne _ _ _ _ hk]
  have hDE : ∀ k, clD Dc kl k = true → E k = false := fun k hk => by
    by_cases hkk : k = kl
    · subst hkk
      cases he : E k with
      | false => rfl
      | true => exact absurd rfl (hEk k he).2.1
    · exact (hDk k (clD_yes hk hkk)).2.2.1
  have hY := doesY_of (X1 := X1) (a := a) (r := r) hro (fun h => (hbk h).2) (hs.ext.trans hX1) (fun i => VRep.mono hX1 _ _ (hs.t i)) hs.N hr1 hr2 hr3 hr4 hr5 hr6 hk1 hkn (fun k _ _ _ hk => hne1 k hk) hps hpN (fun k hk => ⟨(hDk k hk).1, (hDk k hk).2.1⟩) hσ
  rw [hbl1] at hY
  have hF0 : ∀ k, clD Dc kl k = true → k < n ∧ X1.bx k = clF σ kl m brk ex r 0 k := fun k hk => by
    by_cases hkk : k = kl
    · subst hkk
      refine ⟨hkn, ?_⟩
      rw [hk1]; unfold clF; rw [if_pos rfl, if_neg]
      rintro ⟨h1, h2⟩
      have := (hbk h1).1; omega
    · have := hDk k (clD_yes hk hkk)
      refine ⟨this.1, ?_⟩
      rw [hne1 k hkk, this.2.2.2]; unfold clF; rw [if_neg hkk]
  have hcall := hI X1 lr n (clD Dc kl) (clF σ kl m brk ex r) m brk hm (fun h => (hbk h).1) (fun h => (hnb h).1) hDE (fun p hp => by
    obtain ⟨q1, q2, q3, q4, q5⟩ := hPr p hp
    exact ⟨q1, clD_not q3 q2, q4, (hne1 _ q2).trans q5⟩) hY n X1 us (Nat.le_refl _) hR1 (Ext.refl _) (RowRep.mono hX1 _ _ hus) hF0
    (fun k hk => ⟨(hEk k hk).1, by rw [hne1 k (hEk k hk).2.1]; exact (hEk k hk).2.2⟩) (fun _ _ _ _ => rfl)
    (fun i hi k hk => by
      unfold clF
      by_cases hkk : k = kl
      · rw [if_pos hkk]; exact bdb_obj _
      · rw [if_neg hkk]; exact hσ _ hi k (clD_yes hk hkk)) hEb
  have hcall2 : CallsIn (fen B.R) (0 - 1) P f (Value.func (.yield lr) #[] #[] :: us).toArray X1.w fun en w' => en = .returned (.tuple #[]) ∧ ∃ X', X'.w = w' ∧ X'.bx = ov (clD Dc kl) (clF σ kl m brk ex r m) (ov E (eF m brk) X1.bx) ∧ R n X' ∧ Ext X1 X' :=
    ⟨trivial, fun cs _ => ((callsIn_wide (n := 0)).2 hcall).2 cs (room_wide _)⟩
  refine ⟨hcall2.1, fun cs hroom => ?_⟩
  obtain ⟨en, w3, fr, ⟨rfl, X', rfl, x2, x3, x4⟩, hc1, hc2, hc3⟩ := hcall2.2 cs hroom
  refine ⟨_, _, fr, ?_, hc1, hc2, hc3⟩
  have hkl' : X'.bx kl = .obj (.loop (if brk = true then { r with state := .done, pending := jmp ex } else r)) := by
    rw [x2]
    refine ovY (clD_kl _ _) ?_
    unfold clF
    rw [if_pos rfl]
    by_cases hb : brk = true
    · rw [if_pos ⟨hb, rfl⟩, if_pos hb]
    · rw [if_neg (fun h => hb h.1), if_neg hb]
  have hbl' : X'.bl kl = lr := ((x4.box kl (by rw [hk1]; trivial)).2).trans hbl1
  obtain ⟨_, hh, _⟩ := x3.obj kl _ hkl'
  rw [hbl'] at hh
  obtain ⟨rm, hrm⟩ : ∃ rm : Loop, rm = (if brk = true then { r with state := .done, pending := jmp ex } else r) := ⟨_, rfl⟩
  rw [← hrm] at hkl' hh
  have hnb' : rm.state ≠ .busy := by
    rw [hrm]
    by_cases hb : brk = true
    · rw [if_pos hb]; simp
    · rw [if_neg hb, hr1]; simp
  obtain ⟨d1, d2⟩ := set_obj (o' := .loop { rm with state := .exhausted }) x3 hkl' rfl
  rw [hbl'] at d1 d2
  let X4 : Ctx := { X' with bx := upd X'.bx kl (.obj (.loop { rm with state := .exhausted })), w := X'.w.putObj lr (.loop { rm with state := .exhausted }) }
  have hst : St B N ⟨mk l, n, upd (ov Dc (σ m) (ov E (eF m brk) bx)) kl (.obj (.loop { rm with state := .exhausted }))⟩ X4 { a with defers := mark ++ a.defers } := by
    refine ⟨d1, ?_, fun i => VRep.mono ((hX1.trans x4).trans d2) _ _ (hs.t i), hs.N, hmarks X4 (x4.trans d2), ((hs.ext.trans hX1).trans x4).trans d2⟩
    show upd X'.bx kl _ = upd _ kl _
    funext k
    by_cases hkk : k = kl
    · subst hkk; rw [upd_eq, upd_eq]
    · rw [upd_ne _ _ _ _ hkk, upd_ne _ _ _ _ hkk, x2]
      cases hd : Dc k with
      | true => exact (ovY (clD_of hd) (by unfold clF; rw [if_neg hkk])).trans (ovY hd rfl).symm
      | false =>
        refine (ovN (clD_not hd hkk) rfl).trans ((?_ : _ = _).trans (ovN hd rfl).symm)
        cases he : E k with
        | true => exact (ovY he rfl).trans (ovY he rfl).symm
        | false => exact (ovN he (hne1 k hkk)).trans (ovN he rfl).symm
  refine ⟨_, _, run_endLoop hh hnb', ?_⟩
  show (match rm.pending with
    | none => post B N Q .normal { a with defers := mark ++ a.defers } X4.w
    | some c => c.wpIn (fen B.R) 0 P (post B N Q) { a with defers := mark ++ a.defers } X4.w)
  clear_value X4
  by_cases hb : brk = true
  · obtain ⟨_, c, hc⟩ := hbk hb
    have hp : rm.pending = jmp ex := by rw [hrm, if_pos hb]
    rw [hp]
    cases ex with
    | ret => exact wpIn_ret (.inl ⟨_, X4, hQ _, rfl, hst⟩)
    | exit id => exact wpIn_exit (.inl ⟨_, X4, hQ _, rfl, hst⟩)
    | _ => simp [jmp] at hc
  · have hb' : brk = false := by simpa using hb
    have hp : rm.pending = none := by rw [hrm, if_neg hb]; exact hr2
    rw [hp]
    have := (hnb hb').2
    subst this
    exact .inl ⟨_, X4, hQ _, rfl, hst⟩
theorem runs_range (hB : Outer B) (hg : lko l g = some gv) (hgv : gv = .fn f caps ∨ (gv = .sc (.func (.func f) #[] #[]) ∧ caps = [])) (hf : P.funcs[f]? = some fnn) (hname : (fnn.name == "runtime.NumGoroutine") = false) (hbody : fnn.body.isSome = true)
    (hI : DoesI P f caps xs E e0 eF pre) (hPr : ∀ p ∈ pre, p.1 < n ∧ p.1 ≠ kl ∧ Dc p.1 = false ∧ E p.1 = false ∧ bx p.1 = p.2) (hkl : bx kl = .dead) (hkn : kl < n) (hm : m ≤ xs.length) (hbk : brk = true → 1 ≤ m ∧ ∃ c, jmp ex = some c) (hnb : brk = false → m = xs.length ∧ ex = .normal) (hps : ∀ v ∈ xs, v.length = ps.size) (hpN : ∀ p ∈ ps.toList, p < N)
    (hDk : ∀ k, Dc k = true → k < n ∧ k ≠ kl ∧ E k = false ∧ bx k = σ 0 k) (hEk : ∀ k, E k = true → k < n ∧ k ≠ kl ∧ bx k = e0 k) (hσ : ∀ i, i ≤ m → ∀ k, Dc k = true → BdB n (σ i k)) (hEb : ∀ k, E k = true → BdB n (eF m brk k))
    (hro : Rounds P B N n l bx ps assign body xs Dc E σ kl m brk ex) (hQ : ∀ bb, Q ex ⟨mk l, n, upd (ov Dc (σ m) (ov E (eF m brk) bx)) kl bb⟩) : Runs P B N (.rangeFunc g ps assign body) ⟨mk l, n, bx⟩ Q := by
  intro X a hs
  refine wpIn_rangeFunc (fun fn hfn => ?_)
  obtain ⟨XD, e1, e2, e3, e4, e5, e6⟩ := new_frzo (o := .deferred (some [])) hs.rr
  let r : Loop := { state := .ready, pending := none, fn, tmps := a.tmps, params := ps, assign, body, defers := X.w.heap.size }
  obtain ⟨X1, k1, k2, k3, k4, k5⟩ := new_obj (k := kl) (o := .loop r) e5 (by rw [e1, hs.bx]; exact hkl) hkn rfl
  have hsz : XD.w.heap.size = X.w.heap.size + 1 := by rw [e3, World.size_alloc]
  refine range_core hs hg hgv hf hname hbody hI hPr hkn hm hbk hnb hps hpN hDk hEk hσ hEb hro hQ (X1 := X1) (r := r) (lr := X.w.heap.size + 1) (mark := [markD X.w.heap.size]) ?_ (e6.trans k5) k4 (by rw [k1, e1, show X.bx = bx from hs.bx]) (k3.trans hsz) rfl rfl rfl rfl rfl rfl (fun X' hX' => ?_)
  · rw [k2, e3, show (fen B.R).round = none by rw [hB.R]; rfl]
    exact run_enterLoop_outer _ _ _ _ _
  · obtain ⟨ms, _, m2, m3, m4⟩ := hs.defers
    have hD : XD.w.heap[X.w.heap.size]? = some (.deferred (some [])) := by rw [e3]; exact World.alloc_heap_new _ _
    refine ⟨X.w.heap.size :: ms, fun h => (by rw [hB.mks] at h; cases h), List.nodup_cons.2 ⟨fun hmem => ?_, m2⟩, ?_, fun D hDm => ?_⟩
    · have := (m4 _ hmem).2.2
      have := (Array.getElem?_eq_some_iff.1 this).1
      omega
    · show [markD X.w.heap.size] ++ a.defers = _
      rw [m3]; rfl
    · rcases List.mem_cons.1 hDm with rfl | hDm
      · obtain ⟨f1, f2⟩ := (k5.trans hX').frz _ e4
        exact ⟨hB.free _ hs.ext.size, f1, f2.trans hD⟩
      · obtain ⟨g1, g2, g3⟩ := m4 D hDm
        obtain ⟨f1, f2⟩ := ((e6.trans k5).trans hX').frz _ g2
        exact ⟨g1, f1, f2.trans g3⟩
/-- A range within a round. -/
theorem runs_rangeR {k0 lr0 : Nat} {r0 : Loop} (hBR : B.R = some lr0) (hb0 : B.c.bl k0 = lr0) (hb1 : (B.c.bx k0).is) (hb2 : bx k0 = .obj (.loop r0)) (hg : lko l g = some gv) (hgv : gv = .fn f caps ∨ (gv = .sc (.func (.func f) #[] #[]) ∧ caps = [])) (hf : P.funcs[f]? = some fnn) (hname : (fnn.name == "runtime.NumGoroutine") = false) (hbody : fnn.body.isSome = true)
    (hI : DoesI P f caps xs E e0 eF pre) (hPr : ∀ p ∈ pre, p.1 < n ∧ p.1 ≠ kl ∧ Dc p.1 = false ∧ E p.1 = false ∧ bx p.1 = p.2) (hkl : bx kl = .dead) (hkn : kl < n) (hm : m ≤ xs.length) (hbk : brk = true → 1 ≤ m ∧ ∃ c, jmp ex = some c) (hnb : brk = false → m = xs.length ∧ ex = .normal) (hps : ∀ v ∈ xs, v.length = ps.size) (hpN : ∀ p ∈ ps.toList, p < N)
    (hDk : ∀ k, Dc k = true → k < n ∧ k ≠ kl ∧ E k = false ∧ bx k = σ 0 k) (hEk : ∀ k, E k = true → k < n ∧ k ≠ kl ∧ bx k = e0 k) (hσ : ∀ i, i ≤ m → ∀ k, Dc k = true → BdB n (σ i k)) (hEb : ∀ k, E k = true → BdB n (eF m brk k))
    (hro : Rounds P B N n l bx ps assign body xs Dc E σ kl m brk ex) (hQ : ∀ bb, Q ex ⟨mk l, n, upd (ov Dc (σ m) (ov E (eF m brk) bx)) kl bb⟩) : Runs P B N (.rangeFunc g ps assign body) ⟨mk l, n, bx⟩ Q := by
  intro X a hs
  refine wpIn_rangeFunc (fun fn hfn => ?_)
  have hk0 : X.bx k0 = .obj (.loop r0) := by rw [show X.bx = bx from hs.bx]; exact hb2
  obtain ⟨_, hh0, _⟩ := hs.rr.obj k0 _ hk0
  rw [(hs.ext.box k0 hb1).2, hb0] at hh0
  let r : Loop := { state := .ready, pending := none, fn, tmps := a.tmps, params := ps, assign, body, defers := r0.defers }
  obtain ⟨X1, k1, k2, k3, k4, k5⟩ := new_obj (k := kl) (o := .loop r) hs.rr (by rw [show X.bx = bx from hs.bx]; exact hkl) hkn rfl
  refine range_core hs hg hgv hf hname hbody hI hPr hkn hm hbk hnb hps hpN hDk hEk hσ hEb hro hQ (X1 := X1) (r := r) (lr := X.w.heap.size) (mark := []) ?_ k5 k4 (by rw [k1, show X.bx = bx from hs.bx]) k3 rfl rfl rfl rfl rfl rfl (fun X' hX' => hs.defers.mono (k5.trans hX') rfl)
  rw [k2, show (fen B.R).round = some lr0 by rw [hBR]; rfl]
  exact run_enterLoop_inner hh0 _ _ _ _ _
end
end Go.Vm

