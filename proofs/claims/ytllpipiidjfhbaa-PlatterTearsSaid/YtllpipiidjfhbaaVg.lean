/- Walks of the platter, by the logic of values. -/
import Derived.Test.YtllpipiidjfhbaaVf
namespace Go.Proofs.Ytllpipiidjfhbaa
open Go.Vm
set_option linter.unusedVariables false
set_option linter.unusedSimpArgs false
theorem does_same {P : Program} {f : FuncId} {vs : List V} {k1 k2 : Nat} {b1 b2 : Box} {r : V} (h : Does P f vs [(k1, b1), (k2, b2)] [] r) : Does P f vs [(k1, b1), (k2, b2)] [(k2, b2), (k1, b1)] r := by
  intro n X args hR hrow hpre hup
  have h1 : X.bx k1 = b1 := hpre (k1, b1) (by simp)
  have h2 : X.bx k2 = b2 := hpre (k2, b2) (by simp)
  have e : upds X.bx [(k2, b2), (k1, b1)] = upds X.bx [] := by
    simp only [upds]
    funext k
    by_cases e1 : k = k1
    · subst e1; rw [upd_eq]; exact h1.symm
    · rw [upd_ne _ _ _ _ e1]
      by_cases e2 : k = k2
      · subst e2; rw [upd_eq]; exact h2.symm
      · rw [upd_ne _ _ _ _ e2]
  rw [e]
  exact h n X args hR hrow hpre (fun p hp => by cases hp)
structure PS where
  S : List (List Int)
  w : Int
  f : Int
  kp : List Bool
  dn : Bool
structure POp where
  k : Int
  a : Int
  n : Int
  b : List Int
  kp : List Bool
  deriving Inhabited
def bytesV (xs : List Int) : List (List V) := xs.map fun x => [bV x]
def opV (o : POp) : List V := [.sc (.int .i64 o.k), .sc (.int .i64 o.a), .sc (.int .i64 o.n), .sl 1 (bytesV o.b), .sl 1 (boolsV o.kp)]
def opsV (l : List POp) : List (List V) := l.map opV
def I64 (x : Int) : Prop := -9223372036854775808 ≤ x ∧ x ≤ 9223372036854775807
def okO (o : POp) : Prop := I64 o.a ∧ I64 o.n ∧ o.b.length ≤ 40 ∧ o.kp.length ≤ 60
def okS (s : PS) : Prop := (∀ r ∈ s.S, r.length = 64) ∧ s.S.length ≤ 16384 ∧ (0 ≤ s.w ∧ s.w ≤ 1000000) ∧ (-1 ≤ s.f ∧ s.f ≤ 9223372036854775807) ∧ s.kp.length ≤ 60
def stepW (s : PS) (x : Int) (l : List (List Int)) : PS := if insideB s.S.length x l.length = true ∧ s.dn = false then (if s.f = 0 then ⟨mixS s.S x l 0 s.kp, s.w, s.f, s.kp, true⟩ else ⟨mixS s.S x l s.f s.kp, s.w + 1, if s.f > 0 then s.f - 1 else s.f, s.kp, s.dn⟩) else s
def codeW (s : PS) (x : Int) (l : List (List Int)) : Int := if insideB s.S.length x l.length = true then (if s.dn = true ∨ s.f = 0 then 4 else 0) else 2
def codeR (s : PS) (x m : Int) : Int := if insideB s.S.length x m = true then (if s.dn = true then 4 else 0) else 2
def readS (s : PS) (x m : Int) : List (List Int) := if codeR s x m = 0 then takeN s.S x.toNat m.toNat else []
def secs (b : List Int) : List (List Int) := b.map fun x => List.replicate 64 x
theorem secs_row (b : List Int) : ∀ r ∈ secs b, r.length = 64 := fun r hr => by
  simp only [secs, List.mem_map] at hr; obtain ⟨x, _, rfl⟩ := hr; simp
theorem secs_len (b : List Int) : (secs b).length = b.length := by simp [secs]
theorem snocs_ (b : List Int) (j : Nat) (h : j < b.length) : secsV (secs (b.take j)) ++ [(List.replicate 64 (at' b (j : Int))).map bV] = secsV (secs (b.take (j + 1))) := by
  rw [at_nat _ _ h, List.take_add_one, List.getElem?_eq_getElem h]; unfold secs secsV; rw [List.map_append, List.map_append]; rfl
def lightB (l : List POp) : Bool := decide (l.length ≤ 80 ∧ ∀ o ∈ l, o.b.length ≤ 40 ∧ o.kp.length ≤ 60)
theorem write_all (k1 k2 : Nat) (s : PS) (hkk : k1 ≠ k2) (hs : okS s) (l : List (List Int)) (hl64 : ∀ r ∈ l, r.length = 64) (x : Int) (hl : l.length ≤ 100000) (hx : I64 x) :
    Does Try.prog 15 [.ref k1 0, .sc (.int .i64 x), .sl 64 (secsV l)] [(k1, .cells [.msl k2 0 (s.S).length (s.S).length 64, .sc (.int .i64 (s.w)), .sc (.int .i64 (s.f)), .sl 1 (boolsV (s.kp)), .sc (.bool (s.dn))]), (k2, .cells (s.S.flatten.map bV))] [(k2, .cells ((stepW s x l).S.flatten.map bV)), (k1, .cells [.msl k2 0 ((stepW s x l).S).length ((stepW s x l).S).length 64, .sc (.int .i64 ((stepW s x l).w)), .sc (.int .i64 ((stepW s x l).f)), .sl 1 (boolsV ((stepW s x l).kp)), .sc (.bool ((stepW s x l).dn))])] (.sc (.int .i64 (codeW s x l))) := by
  obtain ⟨S, w, f, kp, dn⟩ := s
  obtain ⟨hS, hL, hw, hf, hk⟩ := hs
  simp only at hS hL hw hf hk
  cases hi : insideB S.length x l.length with
  | false =>
    have e : stepW ⟨S, w, f, kp, dn⟩ x l = ⟨S, w, f, kp, dn⟩ := by simp [stepW, hi]
    have c : codeW ⟨S, w, f, kp, dn⟩ x l = 2 := by simp [codeW, hi]
    rw [e, c]
    exact does_same (write_out k1 k2 S w f kp dn hkk hS l hl64 x hl (by omega) hx hi)
  | true =>
    cases dn with
    | true =>
      have e : stepW ⟨S, w, f, kp, true⟩ x l = ⟨S, w, f, kp, true⟩ := by simp [stepW]
      have c : codeW ⟨S, w, f, kp, true⟩ x l = 4 := by simp [codeW, hi]
      rw [e, c]
      exact does_same (write_down k1 k2 S w f kp true hkk hS l hl64 x hl (by omega) hx hi rfl)
    | false =>
      by_cases h0 : f = 0
      · have e : stepW ⟨S, w, f, kp, false⟩ x l = ⟨mixS S x l 0 kp, w, f, kp, true⟩ := by simp [stepW, hi, h0]
        have c : codeW ⟨S, w, f, kp, false⟩ x l = 4 := by simp [codeW, hi, h0]
        rw [e, c]
        simp only [mixS_len]
        exact write_tear k1 k2 S w f kp false hkk hS l hl64 x hl (by omega) hx hi rfl h0
      · have e : stepW ⟨S, w, f, kp, false⟩ x l = ⟨mixS S x l f kp, w + 1, if f > 0 then f - 1 else f, kp, false⟩ := by simp [stepW, hi, h0]
        have c : codeW ⟨S, w, f, kp, false⟩ x l = 0 := by simp [codeW, hi, h0]
        rw [e, c]
        simp only [mixS_len]
        exact write_ok k1 k2 S w f kp false hkk hS l hl64 x hl (by omega) hx hi rfl h0 (by omega) hf
theorem rwrite_all (s : PS) (hs : okS s) (l : List (List Int)) (hl64 : ∀ r ∈ l, r.length = 64) (x : Int) (hl : l.length ≤ 100000) (hx : I64 x) :
    Does Try.prog 23 [.agg [.sl 64 (secsV (s.S)), .sc (.int .i64 (s.w)), .sc (.int .i64 (s.f)), .sl 1 (boolsV (s.kp)), .sc (.bool (s.dn))], .sc (.int .i64 x), .sl 64 (secsV l)] [] [] (.tup [.agg [.sl 64 (secsV ((stepW s x l).S)), .sc (.int .i64 ((stepW s x l).w)), .sc (.int .i64 ((stepW s x l).f)), .sl 1 (boolsV ((stepW s x l).kp)), .sc (.bool ((stepW s x l).dn))], .sc (.int .i64 (codeW s x l))]) := by
  obtain ⟨S, w, f, kp, dn⟩ := s
  obtain ⟨hS, hL, hw, hf, hk⟩ := hs
  simp only at hS hL hw hf hk
  cases hi : insideB S.length x l.length with
  | false =>
    have e : stepW ⟨S, w, f, kp, dn⟩ x l = ⟨S, w, f, kp, dn⟩ := by simp [stepW, hi]
    have c : codeW ⟨S, w, f, kp, dn⟩ x l = 2 := by simp [codeW, hi]
    rw [e, c]
    exact rwrite_out S w f kp dn hS l hl64 x hl (by omega) hx hi
  | true =>
    cases dn with
    | true =>
      have e : stepW ⟨S, w, f, kp, true⟩ x l = ⟨S, w, f, kp, true⟩ := by simp [stepW]
      have c : codeW ⟨S, w, f, kp, true⟩ x l = 4 := by simp [codeW, hi]
      rw [e, c]
      exact rwrite_down S w f kp true hS l hl64 x hl (by omega) hx hi rfl
    | false =>
      by_cases h0 : f = 0
      · have e : stepW ⟨S, w, f, kp, false⟩ x l = ⟨mixS S x l f kp, w, f, kp, true⟩ := by simp [stepW, hi, h0]
        have c : codeW ⟨S, w, f, kp, false⟩ x l = 4 := by simp [codeW, hi, h0]
        rw [e, c]
        exact rwrite_tear S w f kp false hS l hl64 x hl (by omega) hx hi rfl h0
      · have e : stepW ⟨S, w, f, kp, false⟩ x l = ⟨mixS S x l f kp, w + 1, if f > 0 then f - 1 else f, kp, false⟩ := by simp [stepW, hi, h0]
        have c : codeW ⟨S, w, f, kp, false⟩ x l = 0 := by simp [codeW, hi, h0]
        rw [e, c]
        exact rwrite_ok S w f kp false hS l hl64 x hl (by omega) hx hi rfl h0 (by omega) hf
theorem read_all (k1 k2 : Nat) (s : PS) (hs : okS s) (x m : Int) (hx : I64 x) (hm : I64 m) :
    Does Try.prog 20 [.ref k1 0, .sc (.int .i64 x), .sc (.int .i64 m)] [(k1, .cells [.msl k2 0 (s.S).length (s.S).length 64, .sc (.int .i64 (s.w)), .sc (.int .i64 (s.f)), .sl 1 (boolsV (s.kp)), .sc (.bool (s.dn))]), (k2, .cells (s.S.flatten.map bV))] [] (.tup [.sl 64 (secsV (readS s x m)), .sc (.int .i64 (codeR s x m))]) := by
  obtain ⟨S, w, f, kp, dn⟩ := s
  obtain ⟨hS, hL, hw, hf, hk⟩ := hs
  simp only at hS hL hw hf hk
  cases hi : insideB S.length x m with
  | false =>
    have c : codeR ⟨S, w, f, kp, dn⟩ x m = 2 := by simp [codeR, hi]
    rw [readS, c]
    exact read_range k1 k2 S w f kp dn x m (by omega) hx hm hi
  | true =>
    cases dn with
    | true =>
      have c : codeR ⟨S, w, f, kp, true⟩ x m = 4 := by simp [codeR, hi]
      rw [readS, c]
      exact read_down k1 k2 S w f kp true x m (by omega) hx hm hi rfl
    | false =>
      have c : codeR ⟨S, w, f, kp, false⟩ x m = 0 := by simp [codeR, hi]
      rw [readS, c]
      exact read_ok k1 k2 S w f kp false x m (by omega) hx hm hS hi rfl
theorem rread_all (s : PS) (hs : okS s) (x m : Int) (hx : I64 x) (hm : I64 m) :
    Does Try.prog 24 [.agg [.sl 64 (secsV (s.S)), .sc (.int .i64 (s.w)), .sc (.int .i64 (s.f)), .sl 1 (boolsV (s.kp)), .sc (.bool (s.dn))], .sc (.int .i64 x), .sc (.int .i64 m)] [] [] (.tup [.sl 64 (secsV (readS s x m)), .sc (.int .i64 (codeR s x m))]) := by
  obtain ⟨S, w, f, kp, dn⟩ := s
  obtain ⟨hS, hL, hw, hf, hk⟩ := hs
  simp only at hS hL hw hf hk
  cases hi : insideB S.length x m with
  | false =>
    have c : codeR ⟨S, w, f, kp, dn⟩ x m = 2 := by simp [codeR, hi]
    rw [readS, c]
    exact rread_out S w f kp dn (by omega) x m hx hm hi
  | true =>
    cases dn with
    | true =>
      have c : codeR ⟨S, w, f, kp, true⟩ x m = 4 := by simp [codeR, hi]
      rw [readS, c]
      exact rread_down S w f kp true (by omega) x m hx hm hi rfl
    | false =>
      have c : codeR ⟨S, w, f, kp, false⟩ x m = 0 := by simp [codeR, hi]
      rw [readS, c]
      exact rread_ok S w f kp false (by omega) x m hx hm hi rfl
theorem codeW_rng (s : PS) (x : Int) (l : List (List Int)) : 0 ≤ codeW s x l ∧ codeW s x l ≤ 4 := by unfold codeW; split <;> (try split) <;> omega
theorem readS_row (s : PS) (hs : okS s) (x m : Int) : ∀ r ∈ readS s x m, r.length = 64 := by
  unfold readS
  split
  · exact fun r hr => hs.1 r (List.mem_of_mem_drop (List.mem_of_mem_take hr))
  · intro r hr; cases hr
theorem readS_len (s : PS) (hs : okS s) (x m : Int) : (readS s x m).length ≤ 1000000 := by
  have := hs.2.1
  unfold readS
  split
  · simp only [takeN, List.length_take, List.length_drop]; omega
  · simp
set_option maxRecDepth 100000 in
set_option maxHeartbeats 4000000 in
theorem twin_c (k1 k2 j1 : Nat) (S : List (List Int)) (w f : Int) (kp : List Bool) (dn : Bool) (hk1j : k1 ≠ j1) (hk2j : k2 ≠ j1) (hS : ∀ r ∈ S, r.length = 64) (hL : S.length ≤ 100000) (hkl : kp.length ≤ 60) : Does Try.prog 9 [.ref k1 0] [(k1, .cells [.msl k2 0 (S).length (S).length 64, .sc (.int .i64 (w)), .sc (.int .i64 (f)), .sl 1 (boolsV (kp)), .sc (.bool (dn))]), (k2, .cells (S.flatten.map bV)), (j1, .dead)] [(j1, .cells [.sl 64 (secsV (S)), .sc (.int .i64 (w)), .sc (.int .i64 (f)), .sl 1 (boolsV (kp)), .sc (.bool (dn))])] (.ref j1 0) := by
  refine does_mk 20 Try.func9 rfl rfl rfl (fun n B bx hd hpre hup hvs hbx => ?_)
  have hp0 := hpre.1
  have hk0 := lt_cells hd hp0
  have hp1 := hpre.2.1
  have hk1 := lt_cells hd hp1
  have hp2 := hpre.2.2.1
  have hu0 := hup.1
  refine runs_seq ?_
  refine runs_region ?_
  refine rl0 (gn rfl) rfl rfl (step_as rfl rfl) trivial ?_
  refine runsL_nil ?_
  refine runs_seq ?_
  refine runs_region ?_
  refine rl0 (gn rfl) rfl rfl (step_mv rfl rfl) trivial ?_
  first | refine rl0 (gn rfl) rfl rfl (step_nilCheck rfl (ev_mk rfl) (.inl ⟨_, _, rfl⟩)) trivial ?_ | refine rl0 (gn rfl) rfl rfl (step_nilCheck rfl (ev_mk rfl) (.inr ⟨_, rfl⟩)) trivial ?_
  first
    | (refine' rl0 (gn rfl) rfl rfl (step_load_all rfl rfl F.agg55 ?hl) ⟨?hb, trivial⟩ ?_; (case hb => repeat (first | exact upd_eq _ _ _ | refine (upd_ne _ _ _ _ (by omega)).trans ?_ | assumption | exact hd _ (by omega) | exact hd0 _ (by omega) | exact hd1 _ (by omega) | exact hd2 _ (by omega) | fail)); (case hl => first | rfl | (simp; done) | (simp; omega)))
    | (refine rl0 (gn rfl) rfl rfl (step_load_ro_all rfl rfl F.agg55 (by first | rfl | (simp; done) | (simp; omega))) trivial ?_)
    | (refine' rl0 (gn rfl) rfl rfl (step_load_agg rfl (ev_mk rfl) F.agg55 ?hc ?hl) ⟨?hb, trivial⟩ ?_; (case hb => repeat (first | exact upd_eq _ _ _ | refine (upd_ne _ _ _ _ (by omega)).trans ?_ | assumption | exact hd _ (by omega) | exact hd0 _ (by omega) | exact hd1 _ (by omega) | exact hd2 _ (by omega) | fail)); (case hc => rfl); (case hl => first | rfl | (simp; done)))
    | (refine rl0 (gn rfl) rfl rfl (step_load_ro_agg rfl (ev_mk rfl) F.agg55 rfl rfl) trivial ?_)
  refine rl1 (gn rfl) rfl rfl (step_allocc (k := j1) (zs := [.slice none 0 0, .int .i64 0, .int .i64 0, .slice none 0 0, .bool false]) (cs := [.sc (.slice none 0 0), .sc (.int .i64 0), .sc (.int .i64 0), .sc (.slice none 0 0), .sc (.bool false)]) rfl F.zero55 (by first | rfl | simp) (by first | rfl | decide | simp) (by first | rfl | simp)) ⟨by repeat (first | exact upd_eq _ _ _ | refine (upd_ne _ _ _ _ (by omega)).trans ?_ | assumption | exact hd _ (by omega) | exact hd0 _ (by omega) | exact hd1 _ (by omega) | exact hd2 _ (by omega) | fail), trivial⟩ (by omega) ?_
  first
    | (refine' rls (gn rfl) rfl (step_storeA rfl rfl rfl rfl F.agg55 ?hm ?hl) ⟨?hb, trivial⟩ ?hk ?_; (case hb => repeat (first | exact upd_eq _ _ _ | refine (upd_ne _ _ _ _ (by omega)).trans ?_ | assumption | exact hd _ (by omega) | exact hd0 _ (by omega) | exact hd1 _ (by omega) | exact hd2 _ (by omega) | fail)); (case hm => first | rfl | (simp; done) | (simp; omega)); (case hl => first | rfl | (simp; done) | (simp; omega)); (case hk => omega))
    | (refine' rls (gn rfl) rfl (step_storeS rfl rfl rfl rfl F.agg55 ?hm ?hl ?hc) ⟨?hb, trivial⟩ ?hk ?_; (case hb => repeat (first | exact upd_eq _ _ _ | refine (upd_ne _ _ _ _ (by omega)).trans ?_ | assumption | exact hd _ (by omega) | exact hd0 _ (by omega) | exact hd1 _ (by omega) | exact hd2 _ (by omega) | fail)); (case hm => first | rfl | (simp; done) | (simp; omega)); (case hl => first | decide | (simp; done) | (simp; omega)); (case hc => rfl); (case hk => omega))
  refine runsL_nil ?_
  refine runs_seq ?_
  refine runs_draw (by kernel_rfl) (by kernel_rfl) (by kernel_rfl) ?_
  refine dl0 (gn rfl) rfl rfl (step_mv rfl rfl) trivial ?_
  refine dl0 (gn rfl) rfl rfl (step_callc rfl Try.func13 rfl rfl rfl (image_c k1 k2 S w f kp dn hS hL) (by repeat (first | exact .nil | refine .cons ?_ ?_ | exact VLe.refl _ | exact VLe.own_sl _ _ _ | exact VLe.fl_sl _ _ | exact VLe.nil_sl _ | exact VLe.nil_fl _ | refine VLe.agg ?_))) ⟨by repeat (first | exact upd_eq _ _ _ | refine (upd_ne _ _ _ _ (by omega)).trans ?_ | assumption | exact hd _ (by omega) | exact hd0 _ (by omega) | exact hd1 _ (by omega) | exact hd2 _ (by omega) | fail), ⟨by repeat (first | exact upd_eq _ _ _ | refine (upd_ne _ _ _ _ (by omega)).trans ?_ | assumption | exact hd _ (by omega) | exact hd0 _ (by omega) | exact hd1 _ (by omega) | exact hd2 _ (by omega) | fail), trivial⟩⟩ ?_
  refine dl0 (gn rfl) rfl rfl (step_lit rfl Try.underlying30 F.sz4 F.zero4 (by first | rfl | simp) (by first | rfl | simp | decide) (by decide) rfl rfl (by first | (simp [V.cs, V.stor, oneV]; done) | (simp [V.cs, V.stor, oneV])) rfl) trivial ?_
  refine dl0 (gn rfl) rfl rfl (step_mv rfl rfl) trivial ?_
  first | refine dl0 (gn rfl) rfl rfl (step_nilCheck rfl (ev_mk rfl) (.inl ⟨_, _, rfl⟩)) trivial ?_ | refine dl0 (gn rfl) rfl rfl (step_nilCheck rfl (ev_mk rfl) (.inr ⟨_, rfl⟩)) trivial ?_
  first | refine dl0 (gn rfl) rfl rfl (step_fieldAddr (off := 3) rfl (ev_mk rfl) Try.underlying55 rfl F.sz30 rfl) trivial ?_ | refine dl0 (gn rfl) rfl rfl (step_fieldAddr_ro (off := 3) rfl (ev_mk rfl) Try.underlying55 rfl F.sz30 rfl rfl) trivial ?_
  first
    | (refine' dl0 (gn rfl) rfl rfl (step_load_one rfl (ev_mk rfl) F.one30 ?hv) ⟨?hb, trivial⟩ ?_; (case hb => repeat (first | exact upd_eq _ _ _ | refine (upd_ne _ _ _ _ (by omega)).trans ?_ | assumption | exact hd _ (by omega) | exact hd0 _ (by omega) | exact hd1 _ (by omega) | exact hd2 _ (by omega) | fail)); (case hv => exact rfl))
    | (refine dl0 (gn rfl) rfl rfl (step_load_ro rfl (ev_mk rfl) F.one30 rfl) trivial ?_)
  first
    | (refine' dl1 (gn rfl) rfl rfl (step_append_own rfl rfl rfl Try.underlying30 ⟨_, Try.underlying30, fun k_ => by intro h_; cases h_⟩ F.el4 (ev_mk rfl) (ev_mk rfl) (gives_sl (.inl rfl)) ?hg) ⟨?hb, trivial⟩ (by omega) ?_; (case hb => repeat (first | exact upd_eq _ _ _ | refine (upd_ne _ _ _ _ (by omega)).trans ?_ | assumption | exact hd _ (by omega) | exact hd0 _ (by omega) | exact hd1 _ (by omega) | exact hd2 _ (by omega) | fail)); (case hg => first | (simp [boolsV]; omega) | (simp; omega)))
    | (refine' dl1 (gn rfl) rfl rfl (step_append_new (k := n + 0) rfl rfl rfl Try.underlying30 ⟨_, Try.underlying30, fun k_ => by intro h_; cases h_⟩ F.el4 (ev_mk rfl) (.inl rfl) (ev_mk rfl) (gives_sl (.inl rfl)) ?hg) ⟨?hb, trivial⟩ (by omega) ?_; (case hb => repeat (first | exact upd_eq _ _ _ | refine (upd_ne _ _ _ _ (by omega)).trans ?_ | assumption | exact hd _ (by omega) | exact hd0 _ (by omega) | exact hd1 _ (by omega) | exact hd2 _ (by omega) | fail)); (case hg => first | (simp [boolsV]; omega) | (simp; omega)))
    | (refine' dl1 (gn rfl) rfl rfl (step_append_new (k := n + 0) (xs := []) rfl rfl rfl Try.underlying30 ⟨_, Try.underlying30, fun k_ => by intro h_; cases h_⟩ F.el4 (ev_mk rfl) (.inr ⟨rfl, rfl⟩) (ev_mk rfl) (gives_sl (.inl rfl)) ?hg) ⟨?hb, trivial⟩ (by omega) ?_; (case hb => repeat (first | exact upd_eq _ _ _ | refine (upd_ne _ _ _ _ (by omega)).trans ?_ | assumption | exact hd _ (by omega) | exact hd0 _ (by omega) | exact hd1 _ (by omega) | exact hd2 _ (by omega) | fail)); (case hg => first | (simp [boolsV]; omega) | (simp; omega)))
    | (refine' dl1 (gn rfl) rfl rfl (step_append_own rfl rfl rfl Try.underlying30 ⟨_, Try.underlying30, fun k_ => by intro h_; cases h_⟩ F.el4 (ev_mk rfl) (ev_mk rfl) (gives_sl (.inr (.inl rfl))) ?hg) ⟨?hb, trivial⟩ (by omega) ?_; (case hb => repeat (first | exact upd_eq _ _ _ | refine (upd_ne _ _ _ _ (by omega)).trans ?_ | assumption | exact hd _ (by omega) | exact hd0 _ (by omega) | exact hd1 _ (by omega) | exact hd2 _ (by omega) | fail)); (case hg => first | (simp [boolsV]; omega) | (simp; omega)))
    | (refine' dl1 (gn rfl) rfl rfl (step_append_new (k := n + 0) rfl rfl rfl Try.underlying30 ⟨_, Try.underlying30, fun k_ => by intro h_; cases h_⟩ F.el4 (ev_mk rfl) (.inl rfl) (ev_mk rfl) (gives_sl (.inr (.inl rfl))) ?hg) ⟨?hb, trivial⟩ (by omega) ?_; (case hb => repeat (first | exact upd_eq _ _ _ | refine (upd_ne _ _ _ _ (by omega)).trans ?_ | assumption | exact hd _ (by omega) | exact hd0 _ (by omega) | exact hd1 _ (by omega) | exact hd2 _ (by omega) | fail)); (case hg => first | (simp [boolsV]; omega) | (simp; omega)))
    | (refine' dl1 (gn rfl) rfl rfl (step_append_new (k := n + 0) (xs := []) rfl rfl rfl Try.underlying30 ⟨_, Try.underlying30, fun k_ => by intro h_; cases h_⟩ F.el4 (ev_mk rfl) (.inr ⟨rfl, rfl⟩) (ev_mk rfl) (gives_sl (.inr (.inl rfl))) ?hg) ⟨?hb, trivial⟩ (by omega) ?_; (case hb => repeat (first | exact upd_eq _ _ _ | refine (upd_ne _ _ _ _ (by omega)).trans ?_ | assumption | exact hd _ (by omega) | exact hd0 _ (by omega) | exact hd1 _ (by omega) | exact hd2 _ (by omega) | fail)); (case hg => first | (simp [boolsV]; omega) | (simp; omega)))
    | (refine' dl1 (gn rfl) rfl rfl (step_append_own rfl rfl rfl Try.underlying30 ⟨_, Try.underlying30, fun k_ => by intro h_; cases h_⟩ F.el4 (ev_mk rfl) (ev_mk rfl) (gives_sl (.inr (.inr ⟨_, rfl⟩))) ?hg) ⟨?hb, trivial⟩ (by omega) ?_; (case hb => repeat (first | exact upd_eq _ _ _ | refine (upd_ne _ _ _ _ (by omega)).trans ?_ | assumption | exact hd _ (by omega) | exact hd0 _ (by omega) | exact hd1 _ (by omega) | exact hd2 _ (by omega) | fail)); (case hg => first | (simp [boolsV]; omega) | (simp; omega)))
    | (refine' dl1 (gn rfl) rfl rfl (step_append_new (k := n + 0) rfl rfl rfl Try.underlying30 ⟨_, Try.underlying30, fun k_ => by intro h_; cases h_⟩ F.el4 (ev_mk rfl) (.inl rfl) (ev_mk rfl) (gives_sl (.inr (.inr ⟨_, rfl⟩))) ?hg) ⟨?hb, trivial⟩ (by omega) ?_; (case hb => repeat (first | exact upd_eq _ _ _ | refine (upd_ne _ _ _ _ (by omega)).trans ?_ | assumption | exact hd _ (by omega) | exact hd0 _ (by omega) | exact hd1 _ (by omega) | exact hd2 _ (by omega) | fail)); (case hg => first | (simp [boolsV]; omega) | (simp; omega)))
    | (refine' dl1 (gn rfl) rfl rfl (step_append_new (k := n + 0) (xs := []) rfl rfl rfl Try.underlying30 ⟨_, Try.underlying30, fun k_ => by intro h_; cases h_⟩ F.el4 (ev_mk rfl) (.inr ⟨rfl, rfl⟩) (ev_mk rfl) (gives_sl (.inr (.inr ⟨_, rfl⟩))) ?hg) ⟨?hb, trivial⟩ (by omega) ?_; (case hb => repeat (first | exact upd_eq _ _ _ | refine (upd_ne _ _ _ _ (by omega)).trans ?_ | assumption | exact hd _ (by omega) | exact hd0 _ (by omega) | exact hd1 _ (by omega) | exact hd2 _ (by omega) | fail)); (case hg => first | (simp [boolsV]; omega) | (simp; omega)))
    | (refine' dl1 (gn rfl) rfl rfl (step_append_own rfl rfl rfl Try.underlying30 ⟨_, Try.underlying30, fun k_ => by intro h_; cases h_⟩ F.el4 (ev_mk rfl) (ev_mk rfl) gives_nil ?hg) ⟨?hb, trivial⟩ (by omega) ?_; (case hb => repeat (first | exact upd_eq _ _ _ | refine (upd_ne _ _ _ _ (by omega)).trans ?_ | assumption | exact hd _ (by omega) | exact hd0 _ (by omega) | exact hd1 _ (by omega) | exact hd2 _ (by omega) | fail)); (case hg => first | (simp [boolsV]; omega) | (simp; omega)))
    | (refine' dl1 (gn rfl) rfl rfl (step_append_new (k := n + 0) rfl rfl rfl Try.underlying30 ⟨_, Try.underlying30, fun k_ => by intro h_; cases h_⟩ F.el4 (ev_mk rfl) (.inl rfl) (ev_mk rfl) gives_nil ?hg) ⟨?hb, trivial⟩ (by omega) ?_; (case hb => repeat (first | exact upd_eq _ _ _ | refine (upd_ne _ _ _ _ (by omega)).trans ?_ | assumption | exact hd _ (by omega) | exact hd0 _ (by omega) | exact hd1 _ (by omega) | exact hd2 _ (by omega) | fail)); (case hg => first | (simp [boolsV]; omega) | (simp; omega)))
    | (refine' dl1 (gn rfl) rfl rfl (step_append_new (k := n + 0) (xs := []) rfl rfl rfl Try.underlying30 ⟨_, Try.underlying30, fun k_ => by intro h_; cases h_⟩ F.el4 (ev_mk rfl) (.inr ⟨rfl, rfl⟩) (ev_mk rfl) gives_nil ?hg) ⟨?hb, trivial⟩ (by omega) ?_; (case hb => repeat (first | exact upd_eq _ _ _ | refine (upd_ne _ _ _ _ (by omega)).trans ?_ | assumption | exact hd _ (by omega) | exact hd0 _ (by omega) | exact hd1 _ (by omega) | exact hd2 _ (by omega) | fail)); (case hg => first | (simp [boolsV]; omega) | (simp; omega)))
    | (refine' dl1 (gn rfl) rfl rfl (step_append_own rfl rfl rfl Try.underlying30 ⟨_, Try.underlying30, fun k_ => by intro h_; cases h_⟩ F.el4 (ev_mk rfl) (ev_mk rfl) (gives_msl ?hl ?hy) ?hg) ⟨?hb, ⟨?hm, trivial⟩⟩ (by omega) ?_; (case hb => repeat (first | exact upd_eq _ _ _ | refine (upd_ne _ _ _ _ (by omega)).trans ?_ | assumption | exact hd _ (by omega) | exact hd0 _ (by omega) | exact hd1 _ (by omega) | exact hd2 _ (by omega) | fail)); (case hg => first | (simp [boolsV]; omega) | (simp; omega)); (case hm => repeat (first | exact upd_eq _ _ _ | refine (upd_ne _ _ _ _ (by omega)).trans ?_ | assumption | exact hd _ (by omega) | exact hd0 _ (by omega) | exact hd1 _ (by omega) | exact hd2 _ (by omega) | fail)); (case hl => (simp; omega)); (case hy => rfl))
    | (refine' dl1 (gn rfl) rfl rfl (step_append_new (k := n + 0) rfl rfl rfl Try.underlying30 ⟨_, Try.underlying30, fun k_ => by intro h_; cases h_⟩ F.el4 (ev_mk rfl) (.inl rfl) (ev_mk rfl) (gives_msl ?hl ?hy) ?hg) ⟨?hb, ⟨?hm, trivial⟩⟩ (by omega) ?_; (case hb => repeat (first | exact upd_eq _ _ _ | refine (upd_ne _ _ _ _ (by omega)).trans ?_ | assumption | exact hd _ (by omega) | exact hd0 _ (by omega) | exact hd1 _ (by omega) | exact hd2 _ (by omega) | fail)); (case hg => first | (simp [boolsV]; omega) | (simp; omega)); (case hm => repeat (first | exact upd_eq _ _ _ | refine (upd_ne _ _ _ _ (by omega)).trans ?_ | assumption | exact hd _ (by omega) | exact hd0 _ (by omega) | exact hd1 _ (by omega) | exact hd2 _ (by omega) | fail)); (case hl => (simp; omega)); (case hy => rfl))
    | (refine' dl1 (gn rfl) rfl rfl (step_append_new (k := n + 0) (xs := []) rfl rfl rfl Try.underlying30 ⟨_, Try.underlying30, fun k_ => by intro h_; cases h_⟩ F.el4 (ev_mk rfl) (.inr ⟨rfl, rfl⟩) (ev_mk rfl) (gives_msl ?hl ?hy) ?hg) ⟨?hb, ⟨?hm, trivial⟩⟩ (by omega) ?_; (case hb => repeat (first | exact upd_eq _ _ _ | refine (upd_ne _ _ _ _ (by omega)).trans ?_ | assumption | exact hd _ (by omega) | exact hd0 _ (by omega) | exact hd1 _ (by omega) | exact hd2 _ (by omega) | fail)); (case hg => first | (simp [boolsV]; omega) | (simp; omega)); (case hm => repeat (first | exact upd_eq _ _ _ | refine (upd_ne _ _ _ _ (by omega)).trans ?_ | assumption | exact hd _ (by omega) | exact hd0 _ (by omega) | exact hd1 _ (by omega) | exact hd2 _ (by omega) | fail)); (case hl => (simp; omega)); (case hy => rfl))
  first | refine dl0 (gn rfl) rfl rfl (step_fieldAddr (off := 0) rfl (ev_mk rfl) Try.underlying55 rfl F.sz29 rfl) trivial ?_ | refine dl0 (gn rfl) rfl rfl (step_fieldAddr_ro (off := 0) rfl (ev_mk rfl) Try.underlying55 rfl F.sz29 rfl rfl) trivial ?_
  refine' dls (gn rfl) rfl (step_store1 rfl rfl rfl rfl F.one29 rfl rfl ?hl ?hc) ⟨?hb, trivial⟩ ?hk ?_
  case hb => repeat (first | exact upd_eq _ _ _ | refine (upd_ne _ _ _ _ (by omega)).trans ?_ | assumption | exact hd _ (by omega) | exact hd0 _ (by omega) | exact hd1 _ (by omega) | exact hd2 _ (by omega) | fail)
  case hl => first | decide | (simp; done) | (simp; omega) | (simp; omega)
  case hc => first | (simp only [List.set_cons_succ, List.set_cons_zero]; rfl) | rfl
  case hk => omega
  first | refine dl0 (gn rfl) rfl rfl (step_fieldAddr (off := 3) rfl (ev_mk rfl) Try.underlying55 rfl F.sz30 rfl) trivial ?_ | refine dl0 (gn rfl) rfl rfl (step_fieldAddr_ro (off := 3) rfl (ev_mk rfl) Try.underlying55 rfl F.sz30 rfl rfl) trivial ?_
  refine' dls (gn rfl) rfl (step_store1 rfl rfl rfl rfl F.one30 rfl rfl ?hl ?hc) ⟨?hb, trivial⟩ ?hk ?_
  case hb => repeat (first | exact upd_eq _ _ _ | refine (upd_ne _ _ _ _ (by omega)).trans ?_ | assumption | exact hd _ (by omega) | exact hd0 _ (by omega) | exact hd1 _ (by omega) | exact hd2 _ (by omega) | fail)
  case hl => first | decide | (simp; done) | (simp; omega) | (simp; omega)
  case hc => first | (simp only [List.set_cons_succ, List.set_cons_zero]; rfl) | rfl
  case hk => omega
  refine dlnil ?_ ?_
  · repeat' (first | exact trivial | exact .inr (ap0 _ _ _ _) | exact .inr (ap2 _ _ _ _) | exact .inr (ap3 _ _ _ _) | exact .inr ⟨by first | (simp; done) | (simp; omega), by first | (simp; done) | (simp; omega)⟩ | exact .inl (by kernel_rfl) | refine ⟨?_, ?_⟩ | fail)
  refine runs_seq ?_
  refine runs_region ?_
  refine rl0 (gn rfl) rfl rfl (step_as rfl rfl) trivial ?_
  refine runsL_nil ?_
  refine runs_ret ?_
  refine ⟨by first | exact .inr rfl | exact .inl rfl, fin_mk (rest rfl res0) ?_ ?_ ?_ ?_⟩
  · first | exact VLe.refl _ | exact VLe.own_sl _ _ _ | exact VLe.fl_sl _ _
  · repeat (first | exact trivial | assumption | omega | exact bd_bs | exact bd_row | exact bd_secs | exact bd_bools | refine ⟨?_, ?_⟩ | fail)
  · intro k hk; simp only [upds]; by_cases ej1 : k = j1; (focus subst ej1; refine bl_eq ?_; first | (refine' blec ?hb ?hl; (case hb => repeat (first | exact upd_eq _ _ _ | assumption | refine (upd_ne _ _ _ _ (by omega)).trans ?_ | fail)); (case hl => first | exact VLes.refl _ | ((repeat (first | exact .nil | refine .cons ?_ ?_ | exact VLe.refl _ | exact VLe.own_sl _ _ _ | exact VLe.nil_sl _)); done))) | (refine ble ?_; (repeat (first | exact upd_eq _ _ _ | assumption | refine (upd_ne _ _ _ _ (by omega)).trans ?_ | fail)); done)); refine bl_ne ej1 ?_; exact ble (by first | exact rfl | (refine (upd_ne _ _ _ _ (by omega)).trans ?_; first | exact rfl | skip; repeat (first | exact rfl | refine (upd_ne _ _ _ _ (by omega)).trans ?_ | assumption | exact hf0 _ (by omega) | exact hf1 _ (by omega) | exact hf2 _ (by omega) | exact hf0 _ (by omega) (by first | assumption | omega) | exact hf1 _ (by omega) (by first | assumption | omega))) | exact hf0 _ (by omega) | exact hf1 _ (by omega) | exact hf2 _ (by omega) | exact hf0 _ (by omega) (by first | assumption | omega) | exact hf1 _ (by omega) (by first | assumption | omega))
  · intro p hp cs hcs; simp only [List.mem_cons, List.not_mem_nil, or_false] at hp; (first | (rcases hp with rfl | rfl) | (subst hp)) <;> (cases hcs; repeat (first | exact trivial | assumption | omega | exact bd_bs | exact bd_row | exact bd_secs | exact bd_bools | refine ⟨?_, ?_⟩ | fail))
set_option maxRecDepth 100000 in
set_option maxHeartbeats 4000000 in
theorem sectors_c (b : List Int) (hb : b.length ≤ 40) : Does Try.prog 16 [.sl 1 (bytesV b)] [] [] (.sl 64 (secsV (secs b))) := by
  refine does_mk 20 Try.func16 rfl rfl rfl (fun n B bx hd hpre hup hvs hbx => ?_)
  refine runs_seq ?_
  refine runs_region ?_
  refine rl0 (gn rfl) rfl rfl (step_as rfl rfl) trivial ?_
  refine runsL_nil ?_
  refine runs_seq ?_
  refine runs_region ?_
  refine rl0 (gn rfl) rfl rfl (step_as rfl rfl) trivial ?_
  refine runsL_nil ?_
  refine runs_seq ?_
  refine runs_seq ?_
  refine runs_region ?_
  refine rl0 (gn rfl) rfl rfl (step_as rfl rfl) trivial ?_
  refine runsL_nil ?_
  refine runs_block ?_
  refine runs_grow (l' := []) (d := 3) (k := n + 0) (e := 64) rfl (.inr ⟨rfl, rfl⟩) (by repeat (first | exact upd_eq _ _ _ | refine (upd_ne _ _ _ _ (by omega)).trans ?_ | assumption | exact hd _ (by omega) | exact hd0 _ (by omega) | exact hd1 _ (by omega) | exact hd2 _ (by omega) | fail)) (by omega) ?_
  refine runs_loop (fun (i : Nat) (s : Go.Vm.S) => ∃ (j : Nat) (m0 : Nat) (b0 : Nat → Box), (s = ⟨mk [(0, .sl 1 (bytesV b)), (3, .own 64 (secsV (secs (b.take j))) (n + 0)), (4, .sc (.int .i64 j))], m0, b0⟩) ∧ (i = b.length - j) ∧ (n + 1 ≤ m0) ∧ (∀ k, k < n → b0 k = bx k) ∧ (b0 (n + 0) = .tail (secsV (secs (b.take j))).length) ∧ (j ≤ b.length)) (b.length) ⟨_, sle ?_ (Nat.le_refl _), 0, _, _, rfl, rfl, ?_⟩ ?_
  · (repeat' (first | exact trivial | refine ⟨⟨_, rfl, ?_⟩, ?_⟩ | fail)); (all_goals first | exact VLe.refl _ | (rw [Int.natCast_add]; exact VLe.refl _) | exact VLe.own_sl _ _ _ | exact VLe.fl_sl _ _ | exact VLe.nil_sl _ | (rw [← hsn_]; exact VLe.refl _))
  · exact ⟨by omega, (fun k hk => by first | exact rfl | (refine (upd_ne _ _ _ _ (by omega)).trans ?_; first | exact rfl | skip; repeat (first | exact rfl | refine (upd_ne _ _ _ _ (by omega)).trans ?_ | assumption | exact hf0 _ (by omega) | exact hf1 _ (by omega) | exact hf2 _ (by omega) | exact hf0 _ (by omega) (by first | assumption | omega) | exact hf1 _ (by omega) (by first | assumption | omega))) | exact hf0 _ (by omega) | exact hf1 _ (by omega) | exact hf2 _ (by omega) | exact hf0 _ (by omega) (by first | assumption | omega) | exact hf1 _ (by omega) (by first | assumption | omega)), by repeat (first | exact upd_eq _ _ _ | assumption | refine (upd_ne _ _ _ _ (by omega)).trans ?_ | fail), by omega⟩
  · rintro _ _ ⟨j, m0, b0, rfl, rfl, hm0, hf0, hB0_0, hF0_0⟩
    refine runs_know (fun hd0 => ?_)
    refine runs_bump 8 ?_
    simp only at hd0
    refine runs_seq ?_
    refine runs_seq ?_
    refine runs_region ?_
    refine rl0 (gn rfl) rfl rfl (step_mv rfl rfl) trivial ?_
    refine rl0 (gn rfl) rfl rfl (step_mv rfl rfl) trivial ?_
    first
      | refine rl0 (gn rfl) rfl rfl (step_len rfl rfl (ev_mk rfl) (.inl ⟨⟨_, Try.underlying38⟩, .inl ⟨_, _, .inl rfl, List.length_map _⟩⟩)) trivial ?_
      | refine rl0 (gn rfl) rfl rfl (step_len rfl rfl (ev_mk rfl) (.inl ⟨⟨_, Try.underlying38⟩, .inl ⟨_, _, .inl rfl, rfl⟩⟩)) trivial ?_
      | refine rl0 (gn rfl) rfl rfl (step_len rfl rfl (ev_mk rfl) (.inl ⟨⟨_, Try.underlying38⟩, .inl ⟨_, _, .inr (.inl rfl), List.length_map _⟩⟩)) trivial ?_
      | refine rl0 (gn rfl) rfl rfl (step_len rfl rfl (ev_mk rfl) (.inl ⟨⟨_, Try.underlying38⟩, .inl ⟨_, _, .inr (.inl rfl), rfl⟩⟩)) trivial ?_
      | refine rl0 (gn rfl) rfl rfl (step_len rfl rfl (ev_mk rfl) (.inl ⟨⟨_, Try.underlying38⟩, .inl ⟨_, _, .inr (.inr ⟨_, rfl⟩), List.length_map _⟩⟩)) trivial ?_
      | refine rl0 (gn rfl) rfl rfl (step_len rfl rfl (ev_mk rfl) (.inl ⟨⟨_, Try.underlying38⟩, .inl ⟨_, _, .inr (.inr ⟨_, rfl⟩), rfl⟩⟩)) trivial ?_
      | refine rl0 (gn rfl) rfl rfl (step_len rfl rfl (ev_mk rfl) (.inl ⟨⟨_, Try.underlying38⟩, .inr (.inl ⟨_, _, _, _, rfl⟩)⟩)) trivial ?_
      | refine rl0 (gn rfl) rfl rfl (step_len (m := 0) rfl rfl (ev_mk rfl) (.inl ⟨⟨_, Try.underlying38⟩, .inr (.inr ⟨_, _, rfl⟩)⟩)) trivial ?_
    refine rl_lss (gn rfl) rfl rfl rfl rfl rfl (fun h1 => ?_) (fun h1 => ?_)
    · skip
      refine runsL_nil ?_
      refine runs_cond true (ev_mk rfl) (fun _ => ?_) (fun h_ => nomatch h_)
      refine runs_skip ?_
      refine runs_seq ?_
      refine runs_block ?_
      refine runs_region ?_
      refine rl0 (gn rfl) rfl rfl (step_mv rfl rfl) trivial ?_
      refine rl0 (gn rfl) rfl rfl (step_mv rfl rfl) trivial ?_
      refine rl0 (gn rfl) rfl rfl (step_mv rfl rfl) trivial ?_
      first
        | (refine' rl0 (gn rfl) rfl rfl (step_index rfl (ev_mk rfl) (.inl rfl) (ev_mk rfl) Try.underlying38 F.sz5 (by omega) ?hr) trivial ?_; (case hr => exact map_at _ _ _ (by omega) (by omega)))
        | (refine' rl0 (gn rfl) rfl rfl (step_index rfl (ev_mk rfl) (.inr (.inl rfl)) (ev_mk rfl) Try.underlying38 F.sz5 (by omega) ?hr) trivial ?_; (case hr => exact map_at _ _ _ (by omega) (by omega)))
        | (refine' rl0 (gn rfl) rfl rfl (step_index rfl (ev_mk rfl) (.inr (.inr ⟨_, rfl⟩)) (ev_mk rfl) Try.underlying38 F.sz5 (by omega) ?hr) trivial ?_; (case hr => exact map_at _ _ _ (by omega) (by omega)))
        | (refine rl0 (gn rfl) rfl rfl (step_index_msl rfl (ev_mk rfl) (ev_mk rfl) Try.underlying38 F.sz5 (by omega) (by omega)) trivial ?_)
      first
        | (refine' rl0 (gn rfl) rfl rfl (step_load_one rfl (ev_mk rfl) F.one5 ?hv) ⟨?hb, trivial⟩ ?_; (case hb => repeat (first | exact upd_eq _ _ _ | refine (upd_ne _ _ _ _ (by omega)).trans ?_ | assumption | exact hd _ (by omega) | exact hd0 _ (by omega) | exact hd1 _ (by omega) | exact hd2 _ (by omega) | fail)); (case hv => exact rfl))
        | (refine rl0 (gn rfl) rfl rfl (step_load_ro rfl (ev_mk rfl) F.one5 rfl) trivial ?_)
      refine rl0 (gn rfl) rfl rfl (step_callc rfl Try.func19 rfl rfl rfl (filled_c (at' b (j : Int))) (by repeat (first | exact .nil | refine .cons ?_ ?_ | exact VLe.refl _ | exact VLe.own_sl _ _ _ | exact VLe.fl_sl _ _ | exact VLe.nil_sl _ | exact VLe.nil_fl _ | refine VLe.agg ?_))) trivial ?_
      refine rl0 (gn rfl) rfl rfl (step_lit rfl Try.underlying29 F.sz48 F.zero48 (by first | rfl | simp) (by first | rfl | simp | decide) (by decide) rfl rfl (by first | (simp [V.cs, V.stor, oneV]; done) | (simp [V.cs, V.stor, oneV])) rfl) trivial ?_
      first
        | (refine' rl1 (gn rfl) rfl rfl (step_append_own rfl rfl rfl Try.underlying29 ⟨_, Try.underlying29, fun k_ => by intro h_; cases h_⟩ F.el48 (ev_mk rfl) (ev_mk rfl) (gives_sl (.inl rfl)) ?hg) ⟨?hb, trivial⟩ (by omega) ?_; (case hb => repeat (first | exact upd_eq _ _ _ | refine (upd_ne _ _ _ _ (by omega)).trans ?_ | assumption | exact hd _ (by omega) | exact hd0 _ (by omega) | exact hd1 _ (by omega) | exact hd2 _ (by omega) | fail)); (case hg => (simp [secsV, secs]; omega)))
        | (refine' rl1 (gn rfl) rfl rfl (step_append_new (k := m0 + 0) rfl rfl rfl Try.underlying29 ⟨_, Try.underlying29, fun k_ => by intro h_; cases h_⟩ F.el48 (ev_mk rfl) (.inl rfl) (ev_mk rfl) (gives_sl (.inl rfl)) ?hg) ⟨?hb, trivial⟩ (by omega) ?_; (case hb => repeat (first | exact upd_eq _ _ _ | refine (upd_ne _ _ _ _ (by omega)).trans ?_ | assumption | exact hd _ (by omega) | exact hd0 _ (by omega) | exact hd1 _ (by omega) | exact hd2 _ (by omega) | fail)); (case hg => (simp [secsV, secs]; omega)))
        | (refine' rl1 (gn rfl) rfl rfl (step_append_new (k := m0 + 0) (xs := []) rfl rfl rfl Try.underlying29 ⟨_, Try.underlying29, fun k_ => by intro h_; cases h_⟩ F.el48 (ev_mk rfl) (.inr ⟨rfl, rfl⟩) (ev_mk rfl) (gives_sl (.inl rfl)) ?hg) ⟨?hb, trivial⟩ (by omega) ?_; (case hb => repeat (first | exact upd_eq _ _ _ | refine (upd_ne _ _ _ _ (by omega)).trans ?_ | assumption | exact hd _ (by omega) | exact hd0 _ (by omega) | exact hd1 _ (by omega) | exact hd2 _ (by omega) | fail)); (case hg => (simp [secsV, secs]; omega)))
        | (refine' rl1 (gn rfl) rfl rfl (step_append_own rfl rfl rfl Try.underlying29 ⟨_, Try.underlying29, fun k_ => by intro h_; cases h_⟩ F.el48 (ev_mk rfl) (ev_mk rfl) (gives_sl (.inr (.inl rfl))) ?hg) ⟨?hb, trivial⟩ (by omega) ?_; (case hb => repeat (first | exact upd_eq _ _ _ | refine (upd_ne _ _ _ _ (by omega)).trans ?_ | assumption | exact hd _ (by omega) | exact hd0 _ (by omega) | exact hd1 _ (by omega) | exact hd2 _ (by omega) | fail)); (case hg => (simp [secsV, secs]; omega)))
        | (refine' rl1 (gn rfl) rfl rfl (step_append_new (k := m0 + 0) rfl rfl rfl Try.underlying29 ⟨_, Try.underlying29, fun k_ => by intro h_; cases h_⟩ F.el48 (ev_mk rfl) (.inl rfl) (ev_mk rfl) (gives_sl (.inr (.inl rfl))) ?hg) ⟨?hb, trivial⟩ (by omega) ?_; (case hb => repeat (first | exact upd_eq _ _ _ | refine (upd_ne _ _ _ _ (by omega)).trans ?_ | assumption | exact hd _ (by omega) | exact hd0 _ (by omega) | exact hd1 _ (by omega) | exact hd2 _ (by omega) | fail)); (case hg => (simp [secsV, secs]; omega)))
        | (refine' rl1 (gn rfl) rfl rfl (step_append_new (k := m0 + 0) (xs := []) rfl rfl rfl Try.underlying29 ⟨_, Try.underlying29, fun k_ => by intro h_; cases h_⟩ F.el48 (ev_mk rfl) (.inr ⟨rfl, rfl⟩) (ev_mk rfl) (gives_sl (.inr (.inl rfl))) ?hg) ⟨?hb, trivial⟩ (by omega) ?_; (case hb => repeat (first | exact upd_eq _ _ _ | refine (upd_ne _ _ _ _ (by omega)).trans ?_ | assumption | exact hd _ (by omega) | exact hd0 _ (by omega) | exact hd1 _ (by omega) | exact hd2 _ (by omega) | fail)); (case hg => (simp [secsV, secs]; omega)))
        | (refine' rl1 (gn rfl) rfl rfl (step_append_own rfl rfl rfl Try.underlying29 ⟨_, Try.underlying29, fun k_ => by intro h_; cases h_⟩ F.el48 (ev_mk rfl) (ev_mk rfl) (gives_sl (.inr (.inr ⟨_, rfl⟩))) ?hg) ⟨?hb, trivial⟩ (by omega) ?_; (case hb => repeat (first | exact upd_eq _ _ _ | refine (upd_ne _ _ _ _ (by omega)).trans ?_ | assumption | exact hd _ (by omega) | exact hd0 _ (by omega) | exact hd1 _ (by omega) | exact hd2 _ (by omega) | fail)); (case hg => (simp [secsV, secs]; omega)))
        | (refine' rl1 (gn rfl) rfl rfl (step_append_new (k := m0 + 0) rfl rfl rfl Try.underlying29 ⟨_, Try.underlying29, fun k_ => by intro h_; cases h_⟩ F.el48 (ev_mk rfl) (.inl rfl) (ev_mk rfl) (gives_sl (.inr (.inr ⟨_, rfl⟩))) ?hg) ⟨?hb, trivial⟩ (by omega) ?_; (case hb => repeat (first | exact upd_eq _ _ _ | refine (upd_ne _ _ _ _ (by omega)).trans ?_ | assumption | exact hd _ (by omega) | exact hd0 _ (by omega) | exact hd1 _ (by omega) | exact hd2 _ (by omega) | fail)); (case hg => (simp [secsV, secs]; omega)))
        | (refine' rl1 (gn rfl) rfl rfl (step_append_new (k := m0 + 0) (xs := []) rfl rfl rfl Try.underlying29 ⟨_, Try.underlying29, fun k_ => by intro h_; cases h_⟩ F.el48 (ev_mk rfl) (.inr ⟨rfl, rfl⟩) (ev_mk rfl) (gives_sl (.inr (.inr ⟨_, rfl⟩))) ?hg) ⟨?hb, trivial⟩ (by omega) ?_; (case hb => repeat (first | exact upd_eq _ _ _ | refine (upd_ne _ _ _ _ (by omega)).trans ?_ | assumption | exact hd _ (by omega) | exact hd0 _ (by omega) | exact hd1 _ (by omega) | exact hd2 _ (by omega) | fail)); (case hg => (simp [secsV, secs]; omega)))
        | (refine' rl1 (gn rfl) rfl rfl (step_append_own rfl rfl rfl Try.underlying29 ⟨_, Try.underlying29, fun k_ => by intro h_; cases h_⟩ F.el48 (ev_mk rfl) (ev_mk rfl) gives_nil ?hg) ⟨?hb, trivial⟩ (by omega) ?_; (case hb => repeat (first | exact upd_eq _ _ _ | refine (upd_ne _ _ _ _ (by omega)).trans ?_ | assumption | exact hd _ (by omega) | exact hd0 _ (by omega) | exact hd1 _ (by omega) | exact hd2 _ (by omega) | fail)); (case hg => (simp [secsV, secs]; omega)))
        | (refine' rl1 (gn rfl) rfl rfl (step_append_new (k := m0 + 0) rfl rfl rfl Try.underlying29 ⟨_, Try.underlying29, fun k_ => by intro h_; cases h_⟩ F.el48 (ev_mk rfl) (.inl rfl) (ev_mk rfl) gives_nil ?hg) ⟨?hb, trivial⟩ (by omega) ?_; (case hb => repeat (first | exact upd_eq _ _ _ | refine (upd_ne _ _ _ _ (by omega)).trans ?_ | assumption | exact hd _ (by omega) | exact hd0 _ (by omega) | exact hd1 _ (by omega) | exact hd2 _ (by omega) | fail)); (case hg => (simp [secsV, secs]; omega)))
        | (refine' rl1 (gn rfl) rfl rfl (step_append_new (k := m0 + 0) (xs := []) rfl rfl rfl Try.underlying29 ⟨_, Try.underlying29, fun k_ => by intro h_; cases h_⟩ F.el48 (ev_mk rfl) (.inr ⟨rfl, rfl⟩) (ev_mk rfl) gives_nil ?hg) ⟨?hb, trivial⟩ (by omega) ?_; (case hb => repeat (first | exact upd_eq _ _ _ | refine (upd_ne _ _ _ _ (by omega)).trans ?_ | assumption | exact hd _ (by omega) | exact hd0 _ (by omega) | exact hd1 _ (by omega) | exact hd2 _ (by omega) | fail)); (case hg => (simp [secsV, secs]; omega)))
        | (refine' rl1 (gn rfl) rfl rfl (step_append_own rfl rfl rfl Try.underlying29 ⟨_, Try.underlying29, fun k_ => by intro h_; cases h_⟩ F.el48 (ev_mk rfl) (ev_mk rfl) (gives_msl ?hl ?hy) ?hg) ⟨?hb, ⟨?hm, trivial⟩⟩ (by omega) ?_; (case hb => repeat (first | exact upd_eq _ _ _ | refine (upd_ne _ _ _ _ (by omega)).trans ?_ | assumption | exact hd _ (by omega) | exact hd0 _ (by omega) | exact hd1 _ (by omega) | exact hd2 _ (by omega) | fail)); (case hg => (simp [secsV, secs]; omega)); (case hm => repeat (first | exact upd_eq _ _ _ | refine (upd_ne _ _ _ _ (by omega)).trans ?_ | assumption | exact hd _ (by omega) | exact hd0 _ (by omega) | exact hd1 _ (by omega) | exact hd2 _ (by omega) | fail)); (case hl => (simp; omega)); (case hy => rfl))
        | (refine' rl1 (gn rfl) rfl rfl (step_append_new (k := m0 + 0) rfl rfl rfl Try.underlying29 ⟨_, Try.underlying29, fun k_ => by intro h_; cases h_⟩ F.el48 (ev_mk rfl) (.inl rfl) (ev_mk rfl) (gives_msl ?hl ?hy) ?hg) ⟨?hb, ⟨?hm, trivial⟩⟩ (by omega) ?_; (case hb => repeat (first | exact upd_eq _ _ _ | refine (upd_ne _ _ _ _ (by omega)).trans ?_ | assumption | exact hd _ (by omega) | exact hd0 _ (by omega) | exact hd1 _ (by omega) | exact hd2 _ (by omega) | fail)); (case hg => (simp [secsV, secs]; omega)); (case hm => repeat (first | exact upd_eq _ _ _ | refine (upd_ne _ _ _ _ (by omega)).trans ?_ | assumption | exact hd _ (by omega) | exact hd0 _ (by omega) | exact hd1 _ (by omega) | exact hd2 _ (by omega) | fail)); (case hl => (simp; omega)); (case hy => rfl))
        | (refine' rl1 (gn rfl) rfl rfl (step_append_new (k := m0 + 0) (xs := []) rfl rfl rfl Try.underlying29 ⟨_, Try.underlying29, fun k_ => by intro h_; cases h_⟩ F.el48 (ev_mk rfl) (.inr ⟨rfl, rfl⟩) (ev_mk rfl) (gives_msl ?hl ?hy) ?hg) ⟨?hb, ⟨?hm, trivial⟩⟩ (by omega) ?_; (case hb => repeat (first | exact upd_eq _ _ _ | refine (upd_ne _ _ _ _ (by omega)).trans ?_ | assumption | exact hd _ (by omega) | exact hd0 _ (by omega) | exact hd1 _ (by omega) | exact hd2 _ (by omega) | fail)); (case hg => (simp [secsV, secs]; omega)); (case hm => repeat (first | exact upd_eq _ _ _ | refine (upd_ne _ _ _ _ (by omega)).trans ?_ | assumption | exact hd _ (by omega) | exact hd0 _ (by omega) | exact hd1 _ (by omega) | exact hd2 _ (by omega) | fail)); (case hl => (simp; omega)); (case hy => rfl))
      refine rl0 (gn rfl) rfl rfl (step_as rfl rfl) trivial ?_
      refine runsL_nil ?_
      refine runs_region ?_
      refine rl0 (gn rfl) rfl rfl (step_mv rfl rfl) trivial ?_
      refine rl0 (gn rfl) rfl rfl (step_add rfl (ev_mk rfl) (ev_mk rfl) (w64 (by omega))) trivial ?_
      refine rl0 (gn rfl) rfl rfl (step_as rfl rfl) trivial ?_
      refine runsL_nil ?_
      have hsn_ := snocs_ b j (by omega)
      refine ⟨_, _, ?_, sle ?_ (Nat.le_refl _), j + 1, _, _, rfl, rfl, by omega, (fun k hk => by repeat (first | exact hf0 k hk | refine (upd_ne _ _ _ _ (by first | assumption | omega)).trans ?_ | fail)), by (rw [← hsn_]; repeat (first | exact upd_eq _ _ _ | assumption | refine (upd_ne _ _ _ _ (by omega)).trans ?_ | fail)), by omega⟩
      · omega
      · (repeat' (first | exact trivial | refine ⟨⟨_, rfl, ?_⟩, ?_⟩ | fail)); (all_goals first | exact VLe.refl _ | (rw [Int.natCast_add]; exact VLe.refl _) | exact VLe.own_sl _ _ _ | exact VLe.fl_sl _ _ | exact VLe.nil_sl _ | (rw [← hsn_]; exact VLe.refl _))
    · skip
      refine runsL_nil ?_
      refine runs_cond false (ev_mk rfl) (fun h_ => nomatch h_) (fun _ => ?_)
      refine runs_exit ?_
      refine runs_seq ?_
      refine runs_region ?_
      refine rl0 (gn rfl) rfl rfl (step_mv rfl rfl) trivial ?_
      refine rl0 (gn rfl) rfl rfl (step_as rfl rfl) trivial ?_
      refine runsL_nil ?_
      refine runs_ret ?_
      refine ⟨by first | exact .inr rfl | exact .inl rfl, fin_mk (rest rfl res0) ?_ ?_ ?_ ?_⟩
      · (obtain rfl : j = b.length := by omega); rw [List.take_of_length_le (Nat.le_refl _)]; exact VLe.own_sl _ _ _
      · repeat (first | exact trivial | assumption | omega | exact bd_bs | exact bd_row | exact bd_secs | exact bd_bools | refine ⟨?_, ?_⟩ | fail)
      · intro k hk; exact ble (by first | exact rfl | (refine (upd_ne _ _ _ _ (by omega)).trans ?_; first | exact rfl | skip; repeat (first | exact rfl | refine (upd_ne _ _ _ _ (by omega)).trans ?_ | assumption | exact hf0 _ (by omega) | exact hf1 _ (by omega) | exact hf2 _ (by omega) | exact hf0 _ (by omega) (by first | assumption | omega) | exact hf1 _ (by omega) (by first | assumption | omega))) | exact hf0 _ (by omega) | exact hf1 _ (by omega) | exact hf2 _ (by omega) | exact hf0 _ (by omega) (by first | assumption | omega) | exact hf1 _ (by omega) (by first | assumption | omega))
      · intro p hp; cases hp
set_option maxRecDepth 100000 in
set_option maxHeartbeats 4000000 in
theorem light_c (l : List POp) (hl : (l.length : Int) ≤ 9223372036854775807) (q : Bool) (hq : lightB l = q) : Does Try.prog 5 [.sl 5 (opsV l)] [] [] (.sc (.bool q)) := by
  refine does_mk 20 Try.func5 rfl rfl rfl (fun n B bx hd hpre hup hvs hbx => ?_)
  subst hq
  refine runs_seq ?_
  refine runs_region ?_
  refine rl0 (gn rfl) rfl rfl (step_as rfl rfl) trivial ?_
  refine runsL_nil ?_
  refine runs_seq ?_
  refine runs_seq ?_
  refine runs_region ?_
  refine rl0 (gn rfl) rfl rfl (step_mv rfl rfl) trivial ?_
  first
    | refine rl0 (gn rfl) rfl rfl (step_len rfl rfl (ev_mk rfl) (.inl ⟨⟨_, Try.underlying22⟩, .inl ⟨_, _, .inl rfl, List.length_map _⟩⟩)) trivial ?_
    | refine rl0 (gn rfl) rfl rfl (step_len rfl rfl (ev_mk rfl) (.inl ⟨⟨_, Try.underlying22⟩, .inl ⟨_, _, .inl rfl, rfl⟩⟩)) trivial ?_
    | refine rl0 (gn rfl) rfl rfl (step_len rfl rfl (ev_mk rfl) (.inl ⟨⟨_, Try.underlying22⟩, .inl ⟨_, _, .inr (.inl rfl), List.length_map _⟩⟩)) trivial ?_
    | refine rl0 (gn rfl) rfl rfl (step_len rfl rfl (ev_mk rfl) (.inl ⟨⟨_, Try.underlying22⟩, .inl ⟨_, _, .inr (.inl rfl), rfl⟩⟩)) trivial ?_
    | refine rl0 (gn rfl) rfl rfl (step_len rfl rfl (ev_mk rfl) (.inl ⟨⟨_, Try.underlying22⟩, .inl ⟨_, _, .inr (.inr ⟨_, rfl⟩), List.length_map _⟩⟩)) trivial ?_
    | refine rl0 (gn rfl) rfl rfl (step_len rfl rfl (ev_mk rfl) (.inl ⟨⟨_, Try.underlying22⟩, .inl ⟨_, _, .inr (.inr ⟨_, rfl⟩), rfl⟩⟩)) trivial ?_
    | refine rl0 (gn rfl) rfl rfl (step_len rfl rfl (ev_mk rfl) (.inl ⟨⟨_, Try.underlying22⟩, .inr (.inl ⟨_, _, _, _, rfl⟩)⟩)) trivial ?_
    | refine rl0 (gn rfl) rfl rfl (step_len (m := 0) rfl rfl (ev_mk rfl) (.inl ⟨⟨_, Try.underlying22⟩, .inr (.inr ⟨_, _, rfl⟩)⟩)) trivial ?_
  refine rl_gtr (gn rfl) rfl rfl rfl rfl rfl (fun h1 => ?_) (fun h1 => ?_)
  · skip
    refine runsL_nil ?_
    refine runs_cond true (ev_mk rfl) (fun _ => ?_) (fun h_ => nomatch h_)
    refine runs_seq ?_
    refine runs_region ?_
    refine rl0 (gn rfl) rfl rfl (step_as rfl rfl) trivial ?_
    refine runsL_nil ?_
    refine runs_ret ?_
    refine ⟨by first | exact .inr rfl | exact .inl rfl, fin_mk (rest rfl res0) ?_ ?_ ?_ ?_⟩
    · (refine vle_bool ?_; symm; first | (apply decide_eq_true; refine ⟨by omega, fun o ho => ?_⟩; obtain ⟨i, hi, rfl⟩ := List.getElem_of_mem ho; have h_ := hF0_1 i (by omega); rwa [at_nat _ _ hi] at h_) | (apply decide_eq_false; intro h_; omega) | (apply decide_eq_false; intro h_; have h2_ := h_.2 (at' l (j : Int)) (by rw [at_nat _ _ (by omega)]; exact List.getElem_mem _); omega))
    · repeat (first | exact trivial | assumption | omega | exact bd_bs | exact bd_row | exact bd_secs | exact bd_bools | refine ⟨?_, ?_⟩ | fail)
    · intro k hk; exact ble (by first | exact rfl | (refine (upd_ne _ _ _ _ (by omega)).trans ?_; first | exact rfl | skip; repeat (first | exact rfl | refine (upd_ne _ _ _ _ (by omega)).trans ?_ | assumption | exact hf0 _ (by omega) | exact hf1 _ (by omega) | exact hf2 _ (by omega) | exact hf0 _ (by omega) (by first | assumption | omega) | exact hf1 _ (by omega) (by first | assumption | omega))) | exact hf0 _ (by omega) | exact hf1 _ (by omega) | exact hf2 _ (by omega) | exact hf0 _ (by omega) (by first | assumption | omega) | exact hf1 _ (by omega) (by first | assumption | omega))
    · intro p hp; cases hp
  · skip
    refine runsL_nil ?_
    refine runs_cond false (ev_mk rfl) (fun h_ => nomatch h_) (fun _ => ?_)
    refine runs_skip ?_
    refine runs_seq ?_
    refine runs_seq ?_
    refine runs_region ?_
    refine rl0 (gn rfl) rfl rfl (step_as rfl rfl) trivial ?_
    refine runsL_nil ?_
    refine runs_block ?_
    refine runs_loop (fun (i : Nat) (s : Go.Vm.S) => ∃ (j : Nat) (m0 : Nat) (b0 : Nat → Box), (s = ⟨mk [(0, .sl 5 (opsV l)), (3, .sc (.int .i64 j))], m0, b0⟩) ∧ (i = l.length - j) ∧ (n ≤ m0) ∧ (∀ k, k < n → b0 k = bx k) ∧ (j ≤ l.length) ∧ (∀ i : Nat, i < j → (at' l (i : Int)).b.length ≤ 40 ∧ (at' l (i : Int)).kp.length ≤ 60)) (l.length) ⟨_, sle ?_ (Nat.le_refl _), 0, _, _, rfl, rfl, ?_⟩ ?_
    · (repeat' (first | exact trivial | refine ⟨⟨_, rfl, ?_⟩, ?_⟩ | fail)); (all_goals first | exact VLe.refl _ | (rw [Int.natCast_add]; exact VLe.refl _) | exact VLe.own_sl _ _ _ | exact VLe.fl_sl _ _ | exact VLe.nil_sl _)
    · exact ⟨by omega, (fun k hk => by first | exact rfl | (refine (upd_ne _ _ _ _ (by omega)).trans ?_; first | exact rfl | skip; repeat (first | exact rfl | refine (upd_ne _ _ _ _ (by omega)).trans ?_ | assumption | exact hf0 _ (by omega) | exact hf1 _ (by omega) | exact hf2 _ (by omega) | exact hf0 _ (by omega) (by first | assumption | omega) | exact hf1 _ (by omega) (by first | assumption | omega))) | exact hf0 _ (by omega) | exact hf1 _ (by omega) | exact hf2 _ (by omega) | exact hf0 _ (by omega) (by first | assumption | omega) | exact hf1 _ (by omega) (by first | assumption | omega)), by omega, fun i hi => by omega⟩
    · rintro _ _ ⟨j, m0, b0, rfl, rfl, hm0, hf0, hF0_0, hF0_1⟩
      refine runs_know (fun hd0 => ?_)
      refine runs_bump 8 ?_
      simp only at hd0
      refine runs_seq ?_
      refine runs_seq ?_
      refine runs_region ?_
      refine rl0 (gn rfl) rfl rfl (step_mv rfl rfl) trivial ?_
      refine rl0 (gn rfl) rfl rfl (step_mv rfl rfl) trivial ?_
      first
        | refine rl0 (gn rfl) rfl rfl (step_len rfl rfl (ev_mk rfl) (.inl ⟨⟨_, Try.underlying22⟩, .inl ⟨_, _, .inl rfl, List.length_map _⟩⟩)) trivial ?_
        | refine rl0 (gn rfl) rfl rfl (step_len rfl rfl (ev_mk rfl) (.inl ⟨⟨_, Try.underlying22⟩, .inl ⟨_, _, .inl rfl, rfl⟩⟩)) trivial ?_
        | refine rl0 (gn rfl) rfl rfl (step_len rfl rfl (ev_mk rfl) (.inl ⟨⟨_, Try.underlying22⟩, .inl ⟨_, _, .inr (.inl rfl), List.length_map _⟩⟩)) trivial ?_
        | refine rl0 (gn rfl) rfl rfl (step_len rfl rfl (ev_mk rfl) (.inl ⟨⟨_, Try.underlying22⟩, .inl ⟨_, _, .inr (.inl rfl), rfl⟩⟩)) trivial ?_
        | refine rl0 (gn rfl) rfl rfl (step_len rfl rfl (ev_mk rfl) (.inl ⟨⟨_, Try.underlying22⟩, .inl ⟨_, _, .inr (.inr ⟨_, rfl⟩), List.length_map _⟩⟩)) trivial ?_
        | refine rl0 (gn rfl) rfl rfl (step_len rfl rfl (ev_mk rfl) (.inl ⟨⟨_, Try.underlying22⟩, .inl ⟨_, _, .inr (.inr ⟨_, rfl⟩), rfl⟩⟩)) trivial ?_
        | refine rl0 (gn rfl) rfl rfl (step_len rfl rfl (ev_mk rfl) (.inl ⟨⟨_, Try.underlying22⟩, .inr (.inl ⟨_, _, _, _, rfl⟩)⟩)) trivial ?_
        | refine rl0 (gn rfl) rfl rfl (step_len (m := 0) rfl rfl (ev_mk rfl) (.inl ⟨⟨_, Try.underlying22⟩, .inr (.inr ⟨_, _, rfl⟩)⟩)) trivial ?_
      refine rl_lss (gn rfl) rfl rfl rfl rfl rfl (fun h2 => ?_) (fun h2 => ?_)
      · skip
        refine runsL_nil ?_
        refine runs_cond true (ev_mk rfl) (fun _ => ?_) (fun h_ => nomatch h_)
        refine runs_skip ?_
        refine runs_seq ?_
        refine runs_block ?_
        refine runs_seq ?_
        refine runs_region ?_
        refine rl0 (gn rfl) rfl rfl (step_mv rfl rfl) trivial ?_
        refine rl0 (gn rfl) rfl rfl (step_mv rfl rfl) trivial ?_
        first
          | (refine' rl0 (gn rfl) rfl rfl (step_index rfl (ev_mk rfl) (.inl rfl) (ev_mk rfl) Try.underlying22 F.sz40 (by omega) ?hr) trivial ?_; (case hr => exact map_at _ _ _ (by omega) (by omega)))
          | (refine' rl0 (gn rfl) rfl rfl (step_index rfl (ev_mk rfl) (.inr (.inl rfl)) (ev_mk rfl) Try.underlying22 F.sz40 (by omega) ?hr) trivial ?_; (case hr => exact map_at _ _ _ (by omega) (by omega)))
          | (refine' rl0 (gn rfl) rfl rfl (step_index rfl (ev_mk rfl) (.inr (.inr ⟨_, rfl⟩)) (ev_mk rfl) Try.underlying22 F.sz40 (by omega) ?hr) trivial ?_; (case hr => exact map_at _ _ _ (by omega) (by omega)))
          | (refine rl0 (gn rfl) rfl rfl (step_index_msl rfl (ev_mk rfl) (ev_mk rfl) Try.underlying22 F.sz40 (by omega) (by omega)) trivial ?_)
        first | refine rl0 (gn rfl) rfl rfl (step_fieldAddr (off := 3) rfl (ev_mk rfl) Try.underlying40 rfl F.sz38 rfl) trivial ?_ | refine rl0 (gn rfl) rfl rfl (step_fieldAddr_ro (off := 3) rfl (ev_mk rfl) Try.underlying40 rfl F.sz38 rfl rfl) trivial ?_
        first
          | (refine' rl0 (gn rfl) rfl rfl (step_load_one rfl (ev_mk rfl) F.one38 ?hv) ⟨?hb, trivial⟩ ?_; (case hb => repeat (first | exact upd_eq _ _ _ | refine (upd_ne _ _ _ _ (by omega)).trans ?_ | assumption | exact hd _ (by omega) | exact hd0 _ (by omega) | exact hd1 _ (by omega) | exact hd2 _ (by omega) | fail)); (case hv => exact rfl))
          | (refine rl0 (gn rfl) rfl rfl (step_load_ro rfl (ev_mk rfl) F.one38 rfl) trivial ?_)
        first
          | refine rl0 (gn rfl) rfl rfl (step_len rfl rfl (ev_mk rfl) (.inl ⟨⟨_, Try.underlying38⟩, .inl ⟨_, _, .inl rfl, List.length_map _⟩⟩)) trivial ?_
          | refine rl0 (gn rfl) rfl rfl (step_len rfl rfl (ev_mk rfl) (.inl ⟨⟨_, Try.underlying38⟩, .inl ⟨_, _, .inl rfl, rfl⟩⟩)) trivial ?_
          | refine rl0 (gn rfl) rfl rfl (step_len rfl rfl (ev_mk rfl) (.inl ⟨⟨_, Try.underlying38⟩, .inl ⟨_, _, .inr (.inl rfl), List.length_map _⟩⟩)) trivial ?_
          | refine rl0 (gn rfl) rfl rfl (step_len rfl rfl (ev_mk rfl) (.inl ⟨⟨_, Try.underlying38⟩, .inl ⟨_, _, .inr (.inl rfl), rfl⟩⟩)) trivial ?_
          | refine rl0 (gn rfl) rfl rfl (step_len rfl rfl (ev_mk rfl) (.inl ⟨⟨_, Try.underlying38⟩, .inl ⟨_, _, .inr (.inr ⟨_, rfl⟩), List.length_map _⟩⟩)) trivial ?_
          | refine rl0 (gn rfl) rfl rfl (step_len rfl rfl (ev_mk rfl) (.inl ⟨⟨_, Try.underlying38⟩, .inl ⟨_, _, .inr (.inr ⟨_, rfl⟩), rfl⟩⟩)) trivial ?_
          | refine rl0 (gn rfl) rfl rfl (step_len rfl rfl (ev_mk rfl) (.inl ⟨⟨_, Try.underlying38⟩, .inr (.inl ⟨_, _, _, _, rfl⟩)⟩)) trivial ?_
          | refine rl0 (gn rfl) rfl rfl (step_len (m := 0) rfl rfl (ev_mk rfl) (.inl ⟨⟨_, Try.underlying38⟩, .inr (.inr ⟨_, _, rfl⟩)⟩)) trivial ?_
        refine rl_gtr (gn rfl) rfl rfl rfl rfl rfl (fun h3 => ?_) (fun h3 => ?_)
        · skip
          refine rl0 (gn rfl) rfl rfl (step_mv rfl rfl) trivial ?_
          refine rlk rfl rfl rfl rfl rfl (ngb rfl rfl) rfl rfl ?_
          refine rlk rfl rfl rfl rfl rfl (ngb rfl rfl) rfl rfl ?_
          refine rlk rfl rfl rfl rfl rfl (ngb rfl rfl) rfl rfl ?_
          refine rlk rfl rfl rfl rfl rfl (ngb rfl rfl) rfl rfl ?_
          refine rlk rfl rfl rfl rfl rfl (ngb rfl rfl) rfl rfl ?_
          refine rlk rfl rfl rfl rfl rfl (ngb rfl rfl) rfl rfl ?_
          refine rlk rfl rfl rfl rfl rfl (ngb rfl rfl) rfl rfl ?_
          refine rl0 (gn rfl) rfl rfl (step_pick rfl (ev_mk rfl) (ev_mk rfl)) trivial ?_
          refine runsL_nil ?_
          refine runs_cond true (ev_mk rfl) (fun _ => ?_) (fun h_ => nomatch h_)
          refine runs_seq ?_
          refine runs_region ?_
          refine rl0 (gn rfl) rfl rfl (step_as rfl rfl) trivial ?_
          refine runsL_nil ?_
          refine runs_ret ?_
          refine ⟨by first | exact .inr rfl | exact .inl rfl, fin_mk (rest rfl res0) ?_ ?_ ?_ ?_⟩
          · (refine vle_bool ?_; symm; first | (apply decide_eq_true; refine ⟨by omega, fun o ho => ?_⟩; obtain ⟨i, hi, rfl⟩ := List.getElem_of_mem ho; have h_ := hF0_1 i (by omega); rwa [at_nat _ _ hi] at h_) | (apply decide_eq_false; intro h_; omega) | (apply decide_eq_false; intro h_; have h2_ := h_.2 (at' l (j : Int)) (by rw [at_nat _ _ (by omega)]; exact List.getElem_mem _); omega))
          · repeat (first | exact trivial | assumption | omega | exact bd_bs | exact bd_row | exact bd_secs | exact bd_bools | refine ⟨?_, ?_⟩ | fail)
          · intro k hk; exact ble (by first | exact rfl | (refine (upd_ne _ _ _ _ (by omega)).trans ?_; first | exact rfl | skip; repeat (first | exact rfl | refine (upd_ne _ _ _ _ (by omega)).trans ?_ | assumption | exact hf0 _ (by omega) | exact hf1 _ (by omega) | exact hf2 _ (by omega) | exact hf0 _ (by omega) (by first | assumption | omega) | exact hf1 _ (by omega) (by first | assumption | omega))) | exact hf0 _ (by omega) | exact hf1 _ (by omega) | exact hf2 _ (by omega) | exact hf0 _ (by omega) (by first | assumption | omega) | exact hf1 _ (by omega) (by first | assumption | omega))
          · intro p hp; cases hp
        · skip
          refine rl0 (gn rfl) rfl rfl (step_mv rfl rfl) trivial ?_
          refine rl0 (gy rfl rfl rfl rfl rfl rfl) rfl rfl (step_mv rfl rfl) trivial ?_
          refine rl0 (gy rfl rfl rfl rfl rfl rfl) rfl rfl (step_mv rfl rfl) trivial ?_
          first
            | (refine' rl0 (gy rfl rfl rfl rfl rfl rfl) rfl rfl (step_index rfl (ev_mk rfl) (.inl rfl) (ev_mk rfl) Try.underlying22 F.sz40 (by omega) ?hr) trivial ?_; (case hr => exact map_at _ _ _ (by omega) (by omega)))
            | (refine' rl0 (gy rfl rfl rfl rfl rfl rfl) rfl rfl (step_index rfl (ev_mk rfl) (.inr (.inl rfl)) (ev_mk rfl) Try.underlying22 F.sz40 (by omega) ?hr) trivial ?_; (case hr => exact map_at _ _ _ (by omega) (by omega)))
            | (refine' rl0 (gy rfl rfl rfl rfl rfl rfl) rfl rfl (step_index rfl (ev_mk rfl) (.inr (.inr ⟨_, rfl⟩)) (ev_mk rfl) Try.underlying22 F.sz40 (by omega) ?hr) trivial ?_; (case hr => exact map_at _ _ _ (by omega) (by omega)))
            | (refine rl0 (gy rfl rfl rfl rfl rfl rfl) rfl rfl (step_index_msl rfl (ev_mk rfl) (ev_mk rfl) Try.underlying22 F.sz40 (by omega) (by omega)) trivial ?_)
          first | refine rl0 (gy rfl rfl rfl rfl rfl rfl) rfl rfl (step_fieldAddr (off := 4) rfl (ev_mk rfl) Try.underlying40 rfl F.sz30 rfl) trivial ?_ | refine rl0 (gy rfl rfl rfl rfl rfl rfl) rfl rfl (step_fieldAddr_ro (off := 4) rfl (ev_mk rfl) Try.underlying40 rfl F.sz30 rfl rfl) trivial ?_
          first
            | (refine' rl0 (gy rfl rfl rfl rfl rfl rfl) rfl rfl (step_load_one rfl (ev_mk rfl) F.one30 ?hv) ⟨?hb, trivial⟩ ?_; (case hb => repeat (first | exact upd_eq _ _ _ | refine (upd_ne _ _ _ _ (by omega)).trans ?_ | assumption | exact hd _ (by omega) | exact hd0 _ (by omega) | exact hd1 _ (by omega) | exact hd2 _ (by omega) | fail)); (case hv => exact rfl))
            | (refine rl0 (gy rfl rfl rfl rfl rfl rfl) rfl rfl (step_load_ro rfl (ev_mk rfl) F.one30 rfl) trivial ?_)
          first
            | refine rl0 (gy rfl rfl rfl rfl rfl rfl) rfl rfl (step_len rfl rfl (ev_mk rfl) (.inl ⟨⟨_, Try.underlying30⟩, .inl ⟨_, _, .inl rfl, List.length_map _⟩⟩)) trivial ?_
            | refine rl0 (gy rfl rfl rfl rfl rfl rfl) rfl rfl (step_len rfl rfl (ev_mk rfl) (.inl ⟨⟨_, Try.underlying30⟩, .inl ⟨_, _, .inl rfl, rfl⟩⟩)) trivial ?_
            | refine rl0 (gy rfl rfl rfl rfl rfl rfl) rfl rfl (step_len rfl rfl (ev_mk rfl) (.inl ⟨⟨_, Try.underlying30⟩, .inl ⟨_, _, .inr (.inl rfl), List.length_map _⟩⟩)) trivial ?_
            | refine rl0 (gy rfl rfl rfl rfl rfl rfl) rfl rfl (step_len rfl rfl (ev_mk rfl) (.inl ⟨⟨_, Try.underlying30⟩, .inl ⟨_, _, .inr (.inl rfl), rfl⟩⟩)) trivial ?_
            | refine rl0 (gy rfl rfl rfl rfl rfl rfl) rfl rfl (step_len rfl rfl (ev_mk rfl) (.inl ⟨⟨_, Try.underlying30⟩, .inl ⟨_, _, .inr (.inr ⟨_, rfl⟩), List.length_map _⟩⟩)) trivial ?_
            | refine rl0 (gy rfl rfl rfl rfl rfl rfl) rfl rfl (step_len rfl rfl (ev_mk rfl) (.inl ⟨⟨_, Try.underlying30⟩, .inl ⟨_, _, .inr (.inr ⟨_, rfl⟩), rfl⟩⟩)) trivial ?_
            | refine rl0 (gy rfl rfl rfl rfl rfl rfl) rfl rfl (step_len rfl rfl (ev_mk rfl) (.inl ⟨⟨_, Try.underlying30⟩, .inr (.inl ⟨_, _, _, _, rfl⟩)⟩)) trivial ?_
            | refine rl0 (gy rfl rfl rfl rfl rfl rfl) rfl rfl (step_len (m := 0) rfl rfl (ev_mk rfl) (.inl ⟨⟨_, Try.underlying30⟩, .inr (.inr ⟨_, _, rfl⟩)⟩)) trivial ?_
          refine rl_gtr (gy rfl rfl rfl rfl rfl rfl) rfl rfl rfl rfl rfl (fun h4 => ?_) (fun h4 => ?_)
          · skip
            refine rl0 (gn rfl) rfl rfl (step_pick rfl (ev_mk rfl) (ev_mk rfl)) trivial ?_
            refine runsL_nil ?_
            refine runs_cond true (ev_mk rfl) (fun _ => ?_) (fun h_ => nomatch h_)
            refine runs_seq ?_
            refine runs_region ?_
            refine rl0 (gn rfl) rfl rfl (step_as rfl rfl) trivial ?_
            refine runsL_nil ?_
            refine runs_ret ?_
            refine ⟨by first | exact .inr rfl | exact .inl rfl, fin_mk (rest rfl res0) ?_ ?_ ?_ ?_⟩
            · (refine vle_bool ?_; symm; first | (apply decide_eq_true; refine ⟨by omega, fun o ho => ?_⟩; obtain ⟨i, hi, rfl⟩ := List.getElem_of_mem ho; have h_ := hF0_1 i (by omega); rwa [at_nat _ _ hi] at h_) | (apply decide_eq_false; intro h_; omega) | (apply decide_eq_false; intro h_; have h2_ := h_.2 (at' l (j : Int)) (by rw [at_nat _ _ (by omega)]; exact List.getElem_mem _); omega))
            · repeat (first | exact trivial | assumption | omega | exact bd_bs | exact bd_row | exact bd_secs | exact bd_bools | refine ⟨?_, ?_⟩ | fail)
            · intro k hk; exact ble (by first | exact rfl | (refine (upd_ne _ _ _ _ (by omega)).trans ?_; first | exact rfl | skip; repeat (first | exact rfl | refine (upd_ne _ _ _ _ (by omega)).trans ?_ | assumption | exact hf0 _ (by omega) | exact hf1 _ (by omega) | exact hf2 _ (by omega) | exact hf0 _ (by omega) (by first | assumption | omega) | exact hf1 _ (by omega) (by first | assumption | omega))) | exact hf0 _ (by omega) | exact hf1 _ (by omega) | exact hf2 _ (by omega) | exact hf0 _ (by omega) (by first | assumption | omega) | exact hf1 _ (by omega) (by first | assumption | omega))
            · intro p hp; cases hp
          · skip
            refine rl0 (gn rfl) rfl rfl (step_pick rfl (ev_mk rfl) (ev_mk rfl)) trivial ?_
            refine runsL_nil ?_
            refine runs_cond false (ev_mk rfl) (fun h_ => nomatch h_) (fun _ => ?_)
            refine runs_skip ?_
            refine runs_region ?_
            refine rl0 (gn rfl) rfl rfl (step_mv rfl rfl) trivial ?_
            refine rl0 (gn rfl) rfl rfl (step_add rfl (ev_mk rfl) (ev_mk rfl) (w64 (by omega))) trivial ?_
            refine rl0 (gn rfl) rfl rfl (step_as rfl rfl) trivial ?_
            refine runsL_nil ?_
            refine ⟨_, _, ?_, sle ?_ (Nat.le_refl _), j + 1, _, _, rfl, rfl, by omega, (fun k hk => by repeat (first | exact hf0 k hk | refine (upd_ne _ _ _ _ (by first | assumption | omega)).trans ?_ | fail)), by omega, fun i hi => by (rcases Nat.lt_succ_iff_lt_or_eq.mp hi with h_ | h_); exact hF0_1 i h_; (subst h_; omega)⟩
            · omega
            · (repeat' (first | exact trivial | refine ⟨⟨_, rfl, ?_⟩, ?_⟩ | fail)); (all_goals first | exact VLe.refl _ | (rw [Int.natCast_add]; exact VLe.refl _) | exact VLe.own_sl _ _ _ | exact VLe.fl_sl _ _ | exact VLe.nil_sl _)
      · skip
        refine runsL_nil ?_
        refine runs_cond false (ev_mk rfl) (fun h_ => nomatch h_) (fun _ => ?_)
        refine runs_exit ?_
        refine runs_seq ?_
        refine runs_region ?_
        refine rl0 (gn rfl) rfl rfl (step_as rfl rfl) trivial ?_
        refine runsL_nil ?_
        refine runs_ret ?_
        refine ⟨by first | exact .inr rfl | exact .inl rfl, fin_mk (rest rfl res0) ?_ ?_ ?_ ?_⟩
        · (refine vle_bool ?_; symm; first | (apply decide_eq_true; refine ⟨by omega, fun o ho => ?_⟩; obtain ⟨i, hi, rfl⟩ := List.getElem_of_mem ho; have h_ := hF0_1 i (by omega); rwa [at_nat _ _ hi] at h_) | (apply decide_eq_false; intro h_; omega) | (apply decide_eq_false; intro h_; have h2_ := h_.2 (at' l (j : Int)) (by rw [at_nat _ _ (by omega)]; exact List.getElem_mem _); omega))
        · repeat (first | exact trivial | assumption | omega | exact bd_bs | exact bd_row | exact bd_secs | exact bd_bools | refine ⟨?_, ?_⟩ | fail)
        · intro k hk; exact ble (by first | exact rfl | (refine (upd_ne _ _ _ _ (by omega)).trans ?_; first | exact rfl | skip; repeat (first | exact rfl | refine (upd_ne _ _ _ _ (by omega)).trans ?_ | assumption | exact hf0 _ (by omega) | exact hf1 _ (by omega) | exact hf2 _ (by omega) | exact hf0 _ (by omega) (by first | assumption | omega) | exact hf1 _ (by omega) (by first | assumption | omega))) | exact hf0 _ (by omega) | exact hf1 _ (by omega) | exact hf2 _ (by omega) | exact hf0 _ (by omega) (by first | assumption | omega) | exact hf1 _ (by omega) (by first | assumption | omega))
        · intro p hp; cases hp
set_option maxRecDepth 100000 in
set_option maxHeartbeats 4000000 in
theorem same_p (k1 k2 : Nat) (S : List (List Int)) (w f : Int) (kp : List Bool) (dn : Bool) (hS : ∀ r ∈ S, r.length = 64) (hL : S.length ≤ 100000) : Does Try.prog 11 [.ref k1 0, .agg [.sl 64 (secsV (S)), .sc (.int .i64 (w)), .sc (.int .i64 (f)), .sl 1 (boolsV (kp)), .sc (.bool (dn))]] [(k1, .cells [.msl k2 0 (S).length (S).length 64, .sc (.int .i64 (w)), .sc (.int .i64 (f)), .sl 1 (boolsV (kp)), .sc (.bool (dn))]), (k2, .cells (S.flatten.map bV))] [] (.sc (.bool true)) := by
  refine does_mk 20 Try.func11 rfl rfl rfl (fun n B bx hd hpre hup hvs hbx => ?_)
  have hp0 := hpre.1
  have hk0 := lt_cells hd hp0
  have hp1 := hpre.2.1
  have hk1 := lt_cells hd hp1
  refine runs_seq ?_
  refine runs_region ?_
  first | refine rl1 (gn rfl) rfl rfl (step_box_agg (k := n + 0) rfl rfl) ⟨by repeat (first | exact upd_eq _ _ _ | refine (upd_ne _ _ _ _ (by omega)).trans ?_ | assumption | exact hd _ (by omega) | exact hd0 _ (by omega) | exact hd1 _ (by omega) | exact hd2 _ (by omega) | fail), trivial⟩ (by omega) ?_ | refine rl1 (gn rfl) rfl rfl (step_box_one (k := n + 0) rfl rfl rfl rfl) ⟨by repeat (first | exact upd_eq _ _ _ | refine (upd_ne _ _ _ _ (by omega)).trans ?_ | assumption | exact hd _ (by omega) | exact hd0 _ (by omega) | exact hd1 _ (by omega) | exact hd2 _ (by omega) | fail), trivial⟩ (by omega) ?_
  refine rl0 (gn rfl) rfl rfl (step_as rfl rfl) trivial ?_
  refine runsL_nil ?_
  refine runs_seq ?_
  refine runs_draw (by kernel_rfl) (by kernel_rfl) (by kernel_rfl) ?_
  refine dl0 (gn rfl) rfl rfl (step_mv rfl rfl) trivial ?_
  refine dl0 (gn rfl) rfl rfl (step_callc rfl Try.func13 rfl rfl rfl (image_c k1 k2 S w f kp dn hS hL) (by repeat (first | exact .nil | refine .cons ?_ ?_ | exact VLe.refl _ | exact VLe.own_sl _ _ _ | exact VLe.fl_sl _ _ | exact VLe.nil_sl _ | exact VLe.nil_fl _ | refine VLe.agg ?_))) ⟨by repeat (first | exact upd_eq _ _ _ | refine (upd_ne _ _ _ _ (by omega)).trans ?_ | assumption | exact hd _ (by omega) | exact hd0 _ (by omega) | exact hd1 _ (by omega) | exact hd2 _ (by omega) | fail), ⟨by repeat (first | exact upd_eq _ _ _ | refine (upd_ne _ _ _ _ (by omega)).trans ?_ | assumption | exact hd _ (by omega) | exact hd0 _ (by omega) | exact hd1 _ (by omega) | exact hd2 _ (by omega) | fail), trivial⟩⟩ ?_
  first | refine dl0 (gn rfl) rfl rfl (step_fieldAddr (off := 0) rfl (ev_mk rfl) Try.underlying32 rfl F.sz29 rfl) trivial ?_ | refine dl0 (gn rfl) rfl rfl (step_fieldAddr_ro (off := 0) rfl (ev_mk rfl) Try.underlying32 rfl F.sz29 rfl rfl) trivial ?_
  first
    | (refine' dl0 (gn rfl) rfl rfl (step_load_one rfl (ev_mk rfl) F.one29 ?hv) ⟨?hb, trivial⟩ ?_; (case hb => repeat (first | exact upd_eq _ _ _ | refine (upd_ne _ _ _ _ (by omega)).trans ?_ | assumption | exact hd _ (by omega) | exact hd0 _ (by omega) | exact hd1 _ (by omega) | exact hd2 _ (by omega) | fail)); (case hv => exact rfl))
    | (refine dl0 (gn rfl) rfl rfl (step_load_ro rfl (ev_mk rfl) F.one29 rfl) trivial ?_)
  refine dl0 (gn rfl) rfl rfl (step_callc rfl Try.func17 rfl rfl rfl (same_c S S hS hS (by omega) true (by simp)) (by repeat (first | exact .nil | refine .cons ?_ ?_ | exact VLe.refl _ | exact VLe.own_sl _ _ _ | exact VLe.fl_sl _ _ | exact VLe.nil_sl _ | exact VLe.nil_fl _ | refine VLe.agg ?_))) trivial ?_
  refine dl0 (gn rfl) rfl rfl (step_mv rfl rfl) trivial ?_
  refine dl0 (gy rfl rfl rfl rfl rfl rfl) rfl rfl (step_mv rfl rfl) trivial ?_
  refine dl0 (gy rfl rfl rfl rfl rfl rfl) rfl rfl (step_callc rfl Try.func22 rfl rfl rfl (size_c k1 k2 S.length _ _ _ _) (by repeat (first | exact .nil | refine .cons ?_ ?_ | exact VLe.refl _ | exact VLe.own_sl _ _ _ | exact VLe.fl_sl _ _ | exact VLe.nil_sl _ | exact VLe.nil_fl _ | refine VLe.agg ?_))) ⟨by repeat (first | exact upd_eq _ _ _ | refine (upd_ne _ _ _ _ (by omega)).trans ?_ | assumption | exact hd _ (by omega) | exact hd0 _ (by omega) | exact hd1 _ (by omega) | exact hd2 _ (by omega) | fail), trivial⟩ ?_
  first | refine dl0 (gy rfl rfl rfl rfl rfl rfl) rfl rfl (step_fieldAddr (off := 0) rfl (ev_mk rfl) Try.underlying32 rfl F.sz29 rfl) trivial ?_ | refine dl0 (gy rfl rfl rfl rfl rfl rfl) rfl rfl (step_fieldAddr_ro (off := 0) rfl (ev_mk rfl) Try.underlying32 rfl F.sz29 rfl rfl) trivial ?_
  first
    | (refine' dl0 (gy rfl rfl rfl rfl rfl rfl) rfl rfl (step_load_one rfl (ev_mk rfl) F.one29 ?hv) ⟨?hb, trivial⟩ ?_; (case hb => repeat (first | exact upd_eq _ _ _ | refine (upd_ne _ _ _ _ (by omega)).trans ?_ | assumption | exact hd _ (by omega) | exact hd0 _ (by omega) | exact hd1 _ (by omega) | exact hd2 _ (by omega) | fail)); (case hv => exact rfl))
    | (refine dl0 (gy rfl rfl rfl rfl rfl rfl) rfl rfl (step_load_ro rfl (ev_mk rfl) F.one29 rfl) trivial ?_)
  first
    | refine dl0 (gy rfl rfl rfl rfl rfl rfl) rfl rfl (step_len rfl rfl (ev_mk rfl) (.inl ⟨⟨_, Try.underlying29⟩, .inl ⟨_, _, .inl rfl, List.length_map _⟩⟩)) trivial ?_
    | refine dl0 (gy rfl rfl rfl rfl rfl rfl) rfl rfl (step_len rfl rfl (ev_mk rfl) (.inl ⟨⟨_, Try.underlying29⟩, .inl ⟨_, _, .inl rfl, rfl⟩⟩)) trivial ?_
    | refine dl0 (gy rfl rfl rfl rfl rfl rfl) rfl rfl (step_len rfl rfl (ev_mk rfl) (.inl ⟨⟨_, Try.underlying29⟩, .inl ⟨_, _, .inr (.inl rfl), List.length_map _⟩⟩)) trivial ?_
    | refine dl0 (gy rfl rfl rfl rfl rfl rfl) rfl rfl (step_len rfl rfl (ev_mk rfl) (.inl ⟨⟨_, Try.underlying29⟩, .inl ⟨_, _, .inr (.inl rfl), rfl⟩⟩)) trivial ?_
    | refine dl0 (gy rfl rfl rfl rfl rfl rfl) rfl rfl (step_len rfl rfl (ev_mk rfl) (.inl ⟨⟨_, Try.underlying29⟩, .inl ⟨_, _, .inr (.inr ⟨_, rfl⟩), List.length_map _⟩⟩)) trivial ?_
    | refine dl0 (gy rfl rfl rfl rfl rfl rfl) rfl rfl (step_len rfl rfl (ev_mk rfl) (.inl ⟨⟨_, Try.underlying29⟩, .inl ⟨_, _, .inr (.inr ⟨_, rfl⟩), rfl⟩⟩)) trivial ?_
    | refine dl0 (gy rfl rfl rfl rfl rfl rfl) rfl rfl (step_len rfl rfl (ev_mk rfl) (.inl ⟨⟨_, Try.underlying29⟩, .inr (.inl ⟨_, _, _, _, rfl⟩)⟩)) trivial ?_
    | refine dl0 (gy rfl rfl rfl rfl rfl rfl) rfl rfl (step_len (m := 0) rfl rfl (ev_mk rfl) (.inl ⟨⟨_, Try.underlying29⟩, .inr (.inr ⟨_, _, rfl⟩)⟩)) trivial ?_
  refine dl_eql (gy rfl rfl rfl rfl rfl rfl) rfl rfl rfl rfl rfl (fun h1 => ?_) (fun h1 => ?_)
  rotate_left
  · simp_all; done
  refine dl0 (gn rfl) rfl rfl (step_pick rfl (ev_mk rfl) (ev_mk rfl)) trivial ?_
  refine dl0 (gn rfl) rfl rfl (step_mv rfl rfl) trivial ?_
  refine dl0 (gy rfl rfl rfl rfl rfl rfl) rfl rfl (step_mv rfl rfl) trivial ?_
  refine dl0 (gy rfl rfl rfl rfl rfl rfl) rfl rfl (step_callc rfl Try.func21 rfl rfl rfl (writes_c k1 _ _ _ _ _) (by repeat (first | exact .nil | refine .cons ?_ ?_ | exact VLe.refl _ | exact VLe.own_sl _ _ _ | exact VLe.fl_sl _ _ | exact VLe.nil_sl _ | exact VLe.nil_fl _ | refine VLe.agg ?_))) ⟨by repeat (first | exact upd_eq _ _ _ | refine (upd_ne _ _ _ _ (by omega)).trans ?_ | assumption | exact hd _ (by omega) | exact hd0 _ (by omega) | exact hd1 _ (by omega) | exact hd2 _ (by omega) | fail), trivial⟩ ?_
  first | refine dl0 (gy rfl rfl rfl rfl rfl rfl) rfl rfl (step_fieldAddr (off := 1) rfl (ev_mk rfl) Try.underlying32 rfl F.sz3 rfl) trivial ?_ | refine dl0 (gy rfl rfl rfl rfl rfl rfl) rfl rfl (step_fieldAddr_ro (off := 1) rfl (ev_mk rfl) Try.underlying32 rfl F.sz3 rfl rfl) trivial ?_
  first
    | (refine' dl0 (gy rfl rfl rfl rfl rfl rfl) rfl rfl (step_load_one rfl (ev_mk rfl) F.one3 ?hv) ⟨?hb, trivial⟩ ?_; (case hb => repeat (first | exact upd_eq _ _ _ | refine (upd_ne _ _ _ _ (by omega)).trans ?_ | assumption | exact hd _ (by omega) | exact hd0 _ (by omega) | exact hd1 _ (by omega) | exact hd2 _ (by omega) | fail)); (case hv => exact rfl))
    | (refine dl0 (gy rfl rfl rfl rfl rfl rfl) rfl rfl (step_load_ro rfl (ev_mk rfl) F.one3 rfl) trivial ?_)
  refine dl_eql (gy rfl rfl rfl rfl rfl rfl) rfl rfl rfl rfl rfl (fun h2 => ?_) (fun h2 => ?_)
  rotate_left
  · simp_all; done
  refine dl0 (gn rfl) rfl rfl (step_pick rfl (ev_mk rfl) (ev_mk rfl)) trivial ?_
  refine dl0 (gn rfl) rfl rfl (step_mv rfl rfl) trivial ?_
  refine dl0 (gy rfl rfl rfl rfl rfl rfl) rfl rfl (step_mv rfl rfl) trivial ?_
  refine dl0 (gy rfl rfl rfl rfl rfl rfl) rfl rfl (step_callc rfl Try.func18 rfl rfl rfl (down_c k1 _ _ _ _ _) (by repeat (first | exact .nil | refine .cons ?_ ?_ | exact VLe.refl _ | exact VLe.own_sl _ _ _ | exact VLe.fl_sl _ _ | exact VLe.nil_sl _ | exact VLe.nil_fl _ | refine VLe.agg ?_))) ⟨by repeat (first | exact upd_eq _ _ _ | refine (upd_ne _ _ _ _ (by omega)).trans ?_ | assumption | exact hd _ (by omega) | exact hd0 _ (by omega) | exact hd1 _ (by omega) | exact hd2 _ (by omega) | fail), trivial⟩ ?_
  first | refine dl0 (gy rfl rfl rfl rfl rfl rfl) rfl rfl (step_fieldAddr (off := 4) rfl (ev_mk rfl) Try.underlying32 rfl F.sz4 rfl) trivial ?_ | refine dl0 (gy rfl rfl rfl rfl rfl rfl) rfl rfl (step_fieldAddr_ro (off := 4) rfl (ev_mk rfl) Try.underlying32 rfl F.sz4 rfl rfl) trivial ?_
  first
    | (refine' dl0 (gy rfl rfl rfl rfl rfl rfl) rfl rfl (step_load_one rfl (ev_mk rfl) F.one4 ?hv) ⟨?hb, trivial⟩ ?_; (case hb => repeat (first | exact upd_eq _ _ _ | refine (upd_ne _ _ _ _ (by omega)).trans ?_ | assumption | exact hd _ (by omega) | exact hd0 _ (by omega) | exact hd1 _ (by omega) | exact hd2 _ (by omega) | fail)); (case hv => exact rfl))
    | (refine dl0 (gy rfl rfl rfl rfl rfl rfl) rfl rfl (step_load_ro rfl (ev_mk rfl) F.one4 rfl) trivial ?_)
  refine dl0 (gy rfl rfl rfl rfl rfl rfl) rfl rfl (step_binOp (c := .bool true) rfl (ev_mk rfl) (ev_mk rfl) (by cases dn <;> exact fun _ => rfl)) trivial ?_
  refine dl0 (gn rfl) rfl rfl (step_pick rfl (ev_mk rfl) (ev_mk rfl)) trivial ?_
  refine dl0 (gn rfl) rfl rfl (step_as rfl rfl) trivial ?_
  refine dlnil ?_ ?_
  · repeat' (first | exact trivial | exact .inr (ap0 _ _ _ _) | exact .inr (ap2 _ _ _ _) | exact .inr (ap3 _ _ _ _) | exact .inr ⟨by first | (simp; done) | (simp; omega), by first | (simp; done) | (simp; omega)⟩ | exact .inl (by kernel_rfl) | refine ⟨?_, ?_⟩ | fail)
  refine runs_ret ?_
  refine ⟨by first | exact .inr rfl | exact .inl rfl, fin_mk (rest rfl res0) ?_ ?_ ?_ ?_⟩
  · first | exact VLe.refl _ | exact VLe.own_sl _ _ _ | exact VLe.fl_sl _ _
  · repeat (first | exact trivial | assumption | omega | exact bd_bs | exact bd_row | exact bd_secs | exact bd_bools | refine ⟨?_, ?_⟩ | fail)
  · intro k hk; exact ble (by first | exact rfl | (refine (upd_ne _ _ _ _ (by omega)).trans ?_; first | exact rfl | skip; repeat (first | exact rfl | refine (upd_ne _ _ _ _ (by omega)).trans ?_ | assumption | exact hf0 _ (by omega) | exact hf1 _ (by omega) | exact hf2 _ (by omega) | exact hf0 _ (by omega) (by first | assumption | omega) | exact hf1 _ (by omega) (by first | assumption | omega))) | exact hf0 _ (by omega) | exact hf1 _ (by omega) | exact hf2 _ (by omega) | exact hf0 _ (by omega) (by first | assumption | omega) | exact hf1 _ (by omega) (by first | assumption | omega))
  · intro p hp; cases hp
set_option maxRecDepth 100000 in
set_option maxHeartbeats 4000000 in
theorem same_t (k1 : Nat) (S : List (List Int)) (w f : Int) (kp : List Bool) (dn : Bool) (hS : ∀ r ∈ S, r.length = 64) (hL : S.length ≤ 100000) : Does Try.prog 11 [.ref k1 0, .agg [.sl 64 (secsV (S)), .sc (.int .i64 (w)), .sc (.int .i64 (f)), .sl 1 (boolsV (kp)), .sc (.bool (dn))]] [(k1, .cells [.sl 64 (secsV (S)), .sc (.int .i64 (w)), .sc (.int .i64 (f)), .sl 1 (boolsV (kp)), .sc (.bool (dn))])] [] (.sc (.bool true)) := by
  refine does_mk 20 Try.func11 rfl rfl rfl (fun n B bx hd hpre hup hvs hbx => ?_)
  have hp0 := hpre.1
  have hk0 := lt_cells hd hp0
  refine runs_seq ?_
  refine runs_region ?_
  first | refine rl1 (gn rfl) rfl rfl (step_box_agg (k := n + 0) rfl rfl) ⟨by repeat (first | exact upd_eq _ _ _ | refine (upd_ne _ _ _ _ (by omega)).trans ?_ | assumption | exact hd _ (by omega) | exact hd0 _ (by omega) | exact hd1 _ (by omega) | exact hd2 _ (by omega) | fail), trivial⟩ (by omega) ?_ | refine rl1 (gn rfl) rfl rfl (step_box_one (k := n + 0) rfl rfl rfl rfl) ⟨by repeat (first | exact upd_eq _ _ _ | refine (upd_ne _ _ _ _ (by omega)).trans ?_ | assumption | exact hd _ (by omega) | exact hd0 _ (by omega) | exact hd1 _ (by omega) | exact hd2 _ (by omega) | fail), trivial⟩ (by omega) ?_
  refine rl0 (gn rfl) rfl rfl (step_as rfl rfl) trivial ?_
  refine runsL_nil ?_
  refine runs_seq ?_
  refine runs_draw (by kernel_rfl) (by kernel_rfl) (by kernel_rfl) ?_
  refine dl0 (gn rfl) rfl rfl (step_mv rfl rfl) trivial ?_
  refine dl0 (gn rfl) rfl rfl (step_callc rfl Try.func13 rfl rfl rfl (image_t k1 S _ _ _ _ hL) (by repeat (first | exact .nil | refine .cons ?_ ?_ | exact VLe.refl _ | exact VLe.own_sl _ _ _ | exact VLe.fl_sl _ _ | exact VLe.nil_sl _ | exact VLe.nil_fl _ | refine VLe.agg ?_))) ⟨by repeat (first | exact upd_eq _ _ _ | refine (upd_ne _ _ _ _ (by omega)).trans ?_ | assumption | exact hd _ (by omega) | exact hd0 _ (by omega) | exact hd1 _ (by omega) | exact hd2 _ (by omega) | fail), trivial⟩ ?_
  first | refine dl0 (gn rfl) rfl rfl (step_fieldAddr (off := 0) rfl (ev_mk rfl) Try.underlying32 rfl F.sz29 rfl) trivial ?_ | refine dl0 (gn rfl) rfl rfl (step_fieldAddr_ro (off := 0) rfl (ev_mk rfl) Try.underlying32 rfl F.sz29 rfl rfl) trivial ?_
  first
    | (refine' dl0 (gn rfl) rfl rfl (step_load_one rfl (ev_mk rfl) F.one29 ?hv) ⟨?hb, trivial⟩ ?_; (case hb => repeat (first | exact upd_eq _ _ _ | refine (upd_ne _ _ _ _ (by omega)).trans ?_ | assumption | exact hd _ (by omega) | exact hd0 _ (by omega) | exact hd1 _ (by omega) | exact hd2 _ (by omega) | fail)); (case hv => exact rfl))
    | (refine dl0 (gn rfl) rfl rfl (step_load_ro rfl (ev_mk rfl) F.one29 rfl) trivial ?_)
  refine dl0 (gn rfl) rfl rfl (step_callc rfl Try.func17 rfl rfl rfl (same_c S S hS hS (by omega) true (by simp)) (by repeat (first | exact .nil | refine .cons ?_ ?_ | exact VLe.refl _ | exact VLe.own_sl _ _ _ | exact VLe.fl_sl _ _ | exact VLe.nil_sl _ | exact VLe.nil_fl _ | refine VLe.agg ?_))) trivial ?_
  refine dl0 (gn rfl) rfl rfl (step_mv rfl rfl) trivial ?_
  refine dl0 (gy rfl rfl rfl rfl rfl rfl) rfl rfl (step_mv rfl rfl) trivial ?_
  refine dl0 (gy rfl rfl rfl rfl rfl rfl) rfl rfl (step_callc rfl Try.func22 rfl rfl rfl (size_t k1 S _ _ _ _) (by repeat (first | exact .nil | refine .cons ?_ ?_ | exact VLe.refl _ | exact VLe.own_sl _ _ _ | exact VLe.fl_sl _ _ | exact VLe.nil_sl _ | exact VLe.nil_fl _ | refine VLe.agg ?_))) ⟨by repeat (first | exact upd_eq _ _ _ | refine (upd_ne _ _ _ _ (by omega)).trans ?_ | assumption | exact hd _ (by omega) | exact hd0 _ (by omega) | exact hd1 _ (by omega) | exact hd2 _ (by omega) | fail), trivial⟩ ?_
  first | refine dl0 (gy rfl rfl rfl rfl rfl rfl) rfl rfl (step_fieldAddr (off := 0) rfl (ev_mk rfl) Try.underlying32 rfl F.sz29 rfl) trivial ?_ | refine dl0 (gy rfl rfl rfl rfl rfl rfl) rfl rfl (step_fieldAddr_ro (off := 0) rfl (ev_mk rfl) Try.underlying32 rfl F.sz29 rfl rfl) trivial ?_
  first
    | (refine' dl0 (gy rfl rfl rfl rfl rfl rfl) rfl rfl (step_load_one rfl (ev_mk rfl) F.one29 ?hv) ⟨?hb, trivial⟩ ?_; (case hb => repeat (first | exact upd_eq _ _ _ | refine (upd_ne _ _ _ _ (by omega)).trans ?_ | assumption | exact hd _ (by omega) | exact hd0 _ (by omega) | exact hd1 _ (by omega) | exact hd2 _ (by omega) | fail)); (case hv => exact rfl))
    | (refine dl0 (gy rfl rfl rfl rfl rfl rfl) rfl rfl (step_load_ro rfl (ev_mk rfl) F.one29 rfl) trivial ?_)
  first
    | refine dl0 (gy rfl rfl rfl rfl rfl rfl) rfl rfl (step_len rfl rfl (ev_mk rfl) (.inl ⟨⟨_, Try.underlying29⟩, .inl ⟨_, _, .inl rfl, List.length_map _⟩⟩)) trivial ?_
    | refine dl0 (gy rfl rfl rfl rfl rfl rfl) rfl rfl (step_len rfl rfl (ev_mk rfl) (.inl ⟨⟨_, Try.underlying29⟩, .inl ⟨_, _, .inl rfl, rfl⟩⟩)) trivial ?_
    | refine dl0 (gy rfl rfl rfl rfl rfl rfl) rfl rfl (step_len rfl rfl (ev_mk rfl) (.inl ⟨⟨_, Try.underlying29⟩, .inl ⟨_, _, .inr (.inl rfl), List.length_map _⟩⟩)) trivial ?_
    | refine dl0 (gy rfl rfl rfl rfl rfl rfl) rfl rfl (step_len rfl rfl (ev_mk rfl) (.inl ⟨⟨_, Try.underlying29⟩, .inl ⟨_, _, .inr (.inl rfl), rfl⟩⟩)) trivial ?_
    | refine dl0 (gy rfl rfl rfl rfl rfl rfl) rfl rfl (step_len rfl rfl (ev_mk rfl) (.inl ⟨⟨_, Try.underlying29⟩, .inl ⟨_, _, .inr (.inr ⟨_, rfl⟩), List.length_map _⟩⟩)) trivial ?_
    | refine dl0 (gy rfl rfl rfl rfl rfl rfl) rfl rfl (step_len rfl rfl (ev_mk rfl) (.inl ⟨⟨_, Try.underlying29⟩, .inl ⟨_, _, .inr (.inr ⟨_, rfl⟩), rfl⟩⟩)) trivial ?_
    | refine dl0 (gy rfl rfl rfl rfl rfl rfl) rfl rfl (step_len rfl rfl (ev_mk rfl) (.inl ⟨⟨_, Try.underlying29⟩, .inr (.inl ⟨_, _, _, _, rfl⟩)⟩)) trivial ?_
    | refine dl0 (gy rfl rfl rfl rfl rfl rfl) rfl rfl (step_len (m := 0) rfl rfl (ev_mk rfl) (.inl ⟨⟨_, Try.underlying29⟩, .inr (.inr ⟨_, _, rfl⟩)⟩)) trivial ?_
  refine dl_eql (gy rfl rfl rfl rfl rfl rfl) rfl rfl rfl rfl rfl (fun h1 => ?_) (fun h1 => ?_)
  rotate_left
  · simp_all; done
  refine dl0 (gn rfl) rfl rfl (step_pick rfl (ev_mk rfl) (ev_mk rfl)) trivial ?_
  refine dl0 (gn rfl) rfl rfl (step_mv rfl rfl) trivial ?_
  refine dl0 (gy rfl rfl rfl rfl rfl rfl) rfl rfl (step_mv rfl rfl) trivial ?_
  refine dl0 (gy rfl rfl rfl rfl rfl rfl) rfl rfl (step_callc rfl Try.func21 rfl rfl rfl (writes_c k1 _ _ _ _ _) (by repeat (first | exact .nil | refine .cons ?_ ?_ | exact VLe.refl _ | exact VLe.own_sl _ _ _ | exact VLe.fl_sl _ _ | exact VLe.nil_sl _ | exact VLe.nil_fl _ | refine VLe.agg ?_))) ⟨by repeat (first | exact upd_eq _ _ _ | refine (upd_ne _ _ _ _ (by omega)).trans ?_ | assumption | exact hd _ (by omega) | exact hd0 _ (by omega) | exact hd1 _ (by omega) | exact hd2 _ (by omega) | fail), trivial⟩ ?_
  first | refine dl0 (gy rfl rfl rfl rfl rfl rfl) rfl rfl (step_fieldAddr (off := 1) rfl (ev_mk rfl) Try.underlying32 rfl F.sz3 rfl) trivial ?_ | refine dl0 (gy rfl rfl rfl rfl rfl rfl) rfl rfl (step_fieldAddr_ro (off := 1) rfl (ev_mk rfl) Try.underlying32 rfl F.sz3 rfl rfl) trivial ?_
  first
    | (refine' dl0 (gy rfl rfl rfl rfl rfl rfl) rfl rfl (step_load_one rfl (ev_mk rfl) F.one3 ?hv) ⟨?hb, trivial⟩ ?_; (case hb => repeat (first | exact upd_eq _ _ _ | refine (upd_ne _ _ _ _ (by omega)).trans ?_ | assumption | exact hd _ (by omega) | exact hd0 _ (by omega) | exact hd1 _ (by omega) | exact hd2 _ (by omega) | fail)); (case hv => exact rfl))
    | (refine dl0 (gy rfl rfl rfl rfl rfl rfl) rfl rfl (step_load_ro rfl (ev_mk rfl) F.one3 rfl) trivial ?_)
  refine dl_eql (gy rfl rfl rfl rfl rfl rfl) rfl rfl rfl rfl rfl (fun h2 => ?_) (fun h2 => ?_)
  rotate_left
  · simp_all; done
  refine dl0 (gn rfl) rfl rfl (step_pick rfl (ev_mk rfl) (ev_mk rfl)) trivial ?_
  refine dl0 (gn rfl) rfl rfl (step_mv rfl rfl) trivial ?_
  refine dl0 (gy rfl rfl rfl rfl rfl rfl) rfl rfl (step_mv rfl rfl) trivial ?_
  refine dl0 (gy rfl rfl rfl rfl rfl rfl) rfl rfl (step_callc rfl Try.func18 rfl rfl rfl (down_c k1 _ _ _ _ _) (by repeat (first | exact .nil | refine .cons ?_ ?_ | exact VLe.refl _ | exact VLe.own_sl _ _ _ | exact VLe.fl_sl _ _ | exact VLe.nil_sl _ | exact VLe.nil_fl _ | refine VLe.agg ?_))) ⟨by repeat (first | exact upd_eq _ _ _ | refine (upd_ne _ _ _ _ (by omega)).trans ?_ | assumption | exact hd _ (by omega) | exact hd0 _ (by omega) | exact hd1 _ (by omega) | exact hd2 _ (by omega) | fail), trivial⟩ ?_
  first | refine dl0 (gy rfl rfl rfl rfl rfl rfl) rfl rfl (step_fieldAddr (off := 4) rfl (ev_mk rfl) Try.underlying32 rfl F.sz4 rfl) trivial ?_ | refine dl0 (gy rfl rfl rfl rfl rfl rfl) rfl rfl (step_fieldAddr_ro (off := 4) rfl (ev_mk rfl) Try.underlying32 rfl F.sz4 rfl rfl) trivial ?_
  first
    | (refine' dl0 (gy rfl rfl rfl rfl rfl rfl) rfl rfl (step_load_one rfl (ev_mk rfl) F.one4 ?hv) ⟨?hb, trivial⟩ ?_; (case hb => repeat (first | exact upd_eq _ _ _ | refine (upd_ne _ _ _ _ (by omega)).trans ?_ | assumption | exact hd _ (by omega) | exact hd0 _ (by omega) | exact hd1 _ (by omega) | exact hd2 _ (by omega) | fail)); (case hv => exact rfl))
    | (refine dl0 (gy rfl rfl rfl rfl rfl rfl) rfl rfl (step_load_ro rfl (ev_mk rfl) F.one4 rfl) trivial ?_)
  refine dl0 (gy rfl rfl rfl rfl rfl rfl) rfl rfl (step_binOp (c := .bool true) rfl (ev_mk rfl) (ev_mk rfl) (by cases dn <;> exact fun _ => rfl)) trivial ?_
  refine dl0 (gn rfl) rfl rfl (step_pick rfl (ev_mk rfl) (ev_mk rfl)) trivial ?_
  refine dl0 (gn rfl) rfl rfl (step_as rfl rfl) trivial ?_
  refine dlnil ?_ ?_
  · repeat' (first | exact trivial | exact .inr (ap0 _ _ _ _) | exact .inr (ap2 _ _ _ _) | exact .inr (ap3 _ _ _ _) | exact .inr ⟨by first | (simp; done) | (simp; omega), by first | (simp; done) | (simp; omega)⟩ | exact .inl (by kernel_rfl) | refine ⟨?_, ?_⟩ | fail)
  refine runs_ret ?_
  refine ⟨by first | exact .inr rfl | exact .inl rfl, fin_mk (rest rfl res0) ?_ ?_ ?_ ?_⟩
  · first | exact VLe.refl _ | exact VLe.own_sl _ _ _ | exact VLe.fl_sl _ _
  · repeat (first | exact trivial | assumption | omega | exact bd_bs | exact bd_row | exact bd_secs | exact bd_bools | refine ⟨?_, ?_⟩ | fail)
  · intro k hk; exact ble (by first | exact rfl | (refine (upd_ne _ _ _ _ (by omega)).trans ?_; first | exact rfl | skip; repeat (first | exact rfl | refine (upd_ne _ _ _ _ (by omega)).trans ?_ | assumption | exact hf0 _ (by omega) | exact hf1 _ (by omega) | exact hf2 _ (by omega) | exact hf0 _ (by omega) (by first | assumption | omega) | exact hf1 _ (by omega) (by first | assumption | omega))) | exact hf0 _ (by omega) | exact hf1 _ (by omega) | exact hf2 _ (by omega) | exact hf0 _ (by omega) (by first | assumption | omega) | exact hf1 _ (by omega) (by first | assumption | omega))
  · intro p hp; cases hp
end Go.Proofs.Ytllpipiidjfhbaa
