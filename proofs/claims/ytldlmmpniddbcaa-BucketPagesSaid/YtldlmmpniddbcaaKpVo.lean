/- Walks by the logic of values. -/
import Derived.Test.YtldlmmpniddbcaaKpVn
import Derived.Test.YtldlmmpniddbcaaKpVc
namespace Go.Proofs.Ytldlmmpniddbcaa
open Go.Vm
set_option linter.unusedVariables false
set_option linter.unusedSimpArgs false
attribute [local irreducible] Go.Vm.beB Go.Vm.fieldB
abbrev Im := Int × List Int
abbrev imR (q : Int × List Int) : List V := V.sc (.int .i64 q.1) :: q.2.map bV
def okR (r : Rc) : Prop := okRc r ∧ r.val.size < 16
def padP (b : List Int) : List Int := b ++ List.replicate (224 - b.length) 0
theorem padP_len {b : List Int} (h : b.length ≤ 224) : (padP b).length = 224 := by simp only [padP, List.length_append, List.length_replicate]; omega
theorem padP_set {b : List Int} (h : b.length ≤ 224) : setSeg (List.replicate 224 (bV 0)) 0 (bytesV b).flatten = (padP b).map bV := by
  unfold setSeg padP
  rw [bytesV_flat, List.length_map, List.take_zero, List.nil_append, List.drop_replicate, List.map_append, List.map_replicate, Nat.zero_add]
def mixP (b : List Int) (j : Nat) : List Int := b.take j ++ List.replicate (224 - j) 0
theorem mixP_len {b : List Int} (h : b.length ≤ 224) {j : Nat} (hj : j ≤ b.length) : (mixP b j).length = 224 := by simp [mixP]; omega
theorem mixP_set {b : List Int} (h : b.length ≤ 224) {j : Nat} (hj : (j : Int) < b.length) : ((mixP b j).map bV).set j (bV (at' b (j : Int))) = (mixP b (j + 1)).map bV := by
  rw [← List.map_set]
  congr 1
  unfold mixP
  rw [show 224 - j = (224 - (j + 1)) + 1 by omega, List.replicate_succ, List.set_append_right _ _ (by simp; omega), show j - (b.take j).length = 0 by (rw [List.length_take]; omega), List.set_cons_zero, List.take_add_one, no_at (by omega), Option.toList_some, List.append_assoc]
  rfl
theorem mixP_end {b : List Int} : mixP b b.length = padP b := by unfold mixP padP; rw [List.take_length]
theorem recB_len (r : Rc) : (recB r).length = 25 := by unfold recB; simp [beB_len]
theorem recF_len {r : Rc} (h : r.val.size < 16) : (recF r).length = 41 := by unfold recF; rw [List.length_append, recB_len, fieldB_len h]
def pgP (d nx : Int) (l : List Rc) (i : Nat) : List Int := [66, d % 256, nx % 256, (l.length : Int)] ++ (l.take i).flatMap recF
theorem fl_len {l : List Rc} (h : ∀ r ∈ l, okR r) : (l.flatMap recF).length = 41 * l.length := by
  induction l with
  | nil => rfl
  | cons p l ih =>
    rw [List.flatMap_cons, List.length_append, recF_len (h p (List.mem_cons_self ..)).2, ih fun r hr => h r (List.mem_cons_of_mem _ hr), List.length_cons]; omega
theorem pgP_len (d nx : Int) {l : List Rc} (h : ∀ r ∈ l, okR r) {i : Nat} (hi : i ≤ l.length) : (pgP d nx l i).length = 4 + 41 * i := by
  unfold pgP; rw [List.length_append, fl_len fun r hr => h r (List.mem_of_mem_take hr), List.length_take, Nat.min_eq_left hi]; rfl
theorem pgP_s (d nx : Int) {l : List Rc} {i : Nat} (h : (i : Int) < l.length) : pgP d nx l (i + 1) = pgP d nx l i ++ recF (at' l (i : Int)) := by
  unfold pgP
  rw [List.take_add_one, rat h]
  simp
theorem at_okR {l : List Rc} (hok : ∀ p ∈ l, okR p) {i : Nat} (h : (i : Int) < l.length) : okR (at' l (i : Int)) := hok _ (List.mem_of_getElem? (rat h))
/-! reading -/
def rS0 (b : List Int) : List Int × Bool := (b.drop 4, false)
def rSt (b : List Int) : Nat → List Int × Bool
  | 0 => rS0 b
  | i + 1 => q6 (rSt b i)
def rcsB (b : List Int) (i : Nat) : List Rc := (List.range i).map fun j => rrV (rSt b j)
theorem rcsB_s (b : List Int) (i : Nat) : (rcsB b (i + 1)).map rcC = (rcsB b i).map rcC ++ [rcC (rrV (rSt b i))] := by unfold rcsB; rw [List.range_succ]; simp
theorem rcsB_len (b : List Int) (i : Nat) : (rcsB b i).length = i := by simp [rcsB]
theorem okS_q6 {s : List Int × Bool} (h : okS s) : okS (q6 s) := by
  have o5 : okS (q5 s) := okS_rS (okS_rS (okS_rS (okS_rS (okS_rS h 8) 8) 4) 4) 1
  exact ⟨rdX_bytes o5.1 _ _, Nat.le_trans (rdX_len _ _ _) o5.2⟩
theorem okS_rSt {b : List Int} (hb : Byts b) (hl : b.length = 224) : ∀ i, okS (rSt b i)
  | 0 => ⟨bytes_drop hb 4, by show (b.drop 4).length ≤ _; rw [List.length_drop]; omega⟩
  | i + 1 => okS_q6 (okS_rSt hb hl i)
def mkF (b : List Int) : Int := beN (b.take 1)
def dpF (b : List Int) : Int := beN ((b.drop 1).take 1)
def nxF (b : List Int) : Int := beN (((b.drop 1).drop 1).take 1)
def cnF (b : List Int) : Int := beN ((((b.drop 1).drop 1).drop 1).take 1)
theorem b1_bd {b : List Int} (hb : Byts b) (h : 1 ≤ b.length) : 0 ≤ beN (b.take 1) ∧ beN (b.take 1) < 256 := by simpa using beN_lt 1 b hb h
theorem mk_bd {b : List Int} (hb : Byts b) (h : b.length = 224) : 0 ≤ mkF b ∧ mkF b < 256 := b1_bd hb (by omega)
theorem dp_bd {b : List Int} (hb : Byts b) (h : b.length = 224) : 0 ≤ dpF b ∧ dpF b < 256 := b1_bd (bytes_drop hb _) (by simp; omega)
theorem nx_bd {b : List Int} (hb : Byts b) (h : b.length = 224) : 0 ≤ nxF b ∧ nxF b < 256 := b1_bd (bytes_drop (bytes_drop hb _) _) (by simp; omega)
theorem cn_bd {b : List Int} (hb : Byts b) (h : b.length = 224) : 0 ≤ cnF b ∧ cnF b < 256 := b1_bd (bytes_drop (bytes_drop (bytes_drop hb _) _) _) (by simp; omega)
def rGd (b : List Int) : Bool := decide (mkF b = 66 ∧ dpF b ≤ 6 ∧ cnF b ≤ 5)
def rAl (b : List Int) (i : Nat) : Bool := (List.range i).all fun j => rrOK (rSt b j)
theorem rAl_s {b : List Int} {i : Nat} (h : rAl b i = true) (h2 : rrOK (rSt b i) = true) : rAl b (i + 1) = true := by
  unfold rAl at h ⊢; rw [List.range_succ, List.all_append, h]; simp [h2]
theorem rAl_f {b : List Int} {i n : Nat} (h : i < n) (h2 : rrOK (rSt b i) = false) : rAl b n = false := by
  unfold rAl; rw [List.all_eq_false]; exact ⟨i, List.mem_range.2 h, by rw [h2]; simp⟩
def rYs (b : List Int) : Bool := rGd b && rAl b (cnF b).toNat
def rDp (b : List Int) : Int := if rYs b = true then dpF b else 0
def rNx (b : List Int) : Int := if rYs b = true then nxF b else 0
def rRc (b : List Int) : List Rc := if rYs b = true then rcsB b (cnF b).toNat else []
def rOk (b : List Int) : Bool := if rYs b = true then noF (rSt b (cnF b).toNat).1 (rSt b (cnF b).toNat).2 else false
theorem rYs_gd {b : List Int} (h : rYs b = true) : mkF b = 66 ∧ dpF b ≤ 6 ∧ cnF b ≤ 5 ∧ rAl b (cnF b).toNat = true := by
  unfold rYs at h
  rw [Bool.and_eq_true] at h
  have h1 := of_decide_eq_true h.1
  exact ⟨h1.1, h1.2.1, h1.2.2, h.2⟩
theorem rRc_len {b : List Int} (hb : Byts b) (hl : b.length = 224) : (rRc b).length ≤ 5 := by
  unfold rRc
  split
  · rename_i h; have h1 := rYs_gd h; have h2 := cn_bd hb hl; rw [rcsB_len]; omega
  · simp
/-! a chain of pages -/
def getG (pF : Int → List Int) (oF : Int → Bool) : Nat → Int → Int → List Int → List Rc → Option (Int × List Int × List Rc)
  | 0, _, _, _, _ => none
  | k + 1, m, d, gs, ps => if oF m = false then none else if gs.length = 8 then none else if rOk (pF m) = false then none else if 0 < gs.length ∧ (rDp (pF m) ≠ d ∨ ps.length < 5 * gs.length ∧ 0 < (rRc (pF m)).length) then none else
      if rNx (pF m) = 0 then some (rDp (pF m), gs ++ [m], ps ++ rRc (pF m)) else getG pF oF k (rNx (pF m)) (rDp (pF m)) (gs ++ [m]) (ps ++ rRc (pF m))
section
variable {pF : Int → List Int} {oF : Int → Bool} {k : Nat} {m d : Int} {gs : List Int} {ps : List Rc}
theorem gg_a (h : oF m = false) : getG pF oF (k + 1) m d gs ps = none := by simp [getG, h]
theorem gg_b (h : gs.length = 8) : getG pF oF (k + 1) m d gs ps = none := by simp [getG, h]
theorem gg_c (h : rOk (pF m) = false) : getG pF oF (k + 1) m d gs ps = none := by simp [getG, h]
theorem gg_d (h : 0 < gs.length ∧ (rDp (pF m) ≠ d ∨ ps.length < 5 * gs.length ∧ 0 < (rRc (pF m)).length)) : getG pF oF (k + 1) m d gs ps = none := by simp only [getG]; rw [if_pos h]; simp
theorem gg_e (h1 : oF m = true) (h2 : ¬ gs.length = 8) (h3 : rOk (pF m) = true) (h4 : ¬ (0 < gs.length ∧ (rDp (pF m) ≠ d ∨ ps.length < 5 * gs.length ∧ 0 < (rRc (pF m)).length))) (h5 : rNx (pF m) = 0) : getG pF oF (k + 1) m d gs ps = some (rDp (pF m), gs ++ [m], ps ++ rRc (pF m)) := by
  simp only [getG]; rw [if_neg (by rw [h1]; simp), if_neg h2, if_neg (by rw [h3]; simp), if_neg h4, if_pos h5]
theorem gg_f (h1 : oF m = true) (h2 : ¬ gs.length = 8) (h3 : rOk (pF m) = true) (h4 : ¬ (0 < gs.length ∧ (rDp (pF m) ≠ d ∨ ps.length < 5 * gs.length ∧ 0 < (rRc (pF m)).length))) (h5 : ¬ rNx (pF m) = 0) : getG pF oF (k + 1) m d gs ps = getG pF oF k (rNx (pF m)) (rDp (pF m)) (gs ++ [m]) (ps ++ rRc (pF m)) := by
  simp only [getG]; rw [if_neg (by rw [h1]; simp), if_neg h2, if_neg (by rw [h3]; simp), if_neg h4, if_neg h5]
end
/-! there and back -/
theorem recF_byts (r : Rc) (h : r.val.size < 16) : Byts (recF r) := by
  unfold recF recB
  refine bytes_app (bytes_app (bytes_app (bytes_app (bytes_app (beB_bytes _ _) (beB_bytes _ _)) (beB_bytes _ _)) (beB_bytes _ _)) ?_) (fieldB_byts (by omega))
  split <;> exact bytes_one (by omega)
theorem fl_byts {l : List Rc} (h : ∀ r ∈ l, okR r) : Byts (l.flatMap recF) := by
  intro x hx
  obtain ⟨p, hp, hx⟩ := List.mem_flatMap.1 hx
  exact recF_byts p (h p hp).2 x hx
theorem page_byts {d nx : Int} {l : List Rc} (hd : 0 ≤ d ∧ d < 256) (h : 0 ≤ nx ∧ nx < 256) (hl : l.length ≤ 5) (hok : ∀ r ∈ l, okR r) : Byts (padP (pgP d nx l l.length)) ∧ (padP (pgP d nx l l.length)).length = 224 := by
  refine ⟨?_, padP_len (by rw [pgP_len d nx hok (Nat.le_refl _)]; omega)⟩
  unfold padP pgP
  rw [List.take_length]
  refine bytes_app (bytes_app ?_ (fl_byts hok)) (fun x hx => by rw [List.eq_of_mem_replicate hx]; omega)
  intro x hx
  simp only [List.mem_cons, List.not_mem_nil, or_false] at hx
  rcases hx with rfl | rfl | rfl | rfl <;> omega
theorem rSt_pg (d nx : Int) {l : List Rc} (hok : ∀ r ∈ l, okR r) : ∀ i, i ≤ l.length → rSt (padP (pgP d nx l l.length)) i = ((l.drop i).flatMap recF ++ List.replicate (224 - (4 + 41 * l.length)) 0, false)
  | 0, _ => by
    show (List.drop 4 (padP (pgP d nx l l.length)), false) = _
    unfold padP
    rw [pgP_len d nx hok (Nat.le_refl _)]
    unfold pgP
    rw [List.take_length, List.append_assoc]
    rfl
  | i + 1, h => by
    have ih := rSt_pg d nx hok i (by omega)
    show q6 (rSt _ i) = _
    rw [ih, List.drop_eq_getElem_cons (by omega : i < l.length), List.flatMap_cons, List.append_assoc]
    have ho := hok _ (List.getElem_mem (by omega : i < l.length))
    exact (rec_r ho.1 ho.2 _).2.2
theorem rSt_ok {d nx : Int} {l : List Rc} (hok : ∀ r ∈ l, okR r) {i : Nat} (h : i < l.length) : rrOK (rSt (padP (pgP d nx l l.length)) i) = true ∧ rrV (rSt (padP (pgP d nx l l.length)) i) = l[i] := by
  rw [rSt_pg d nx hok i (by omega), List.drop_eq_getElem_cons h, List.flatMap_cons, List.append_assoc]
  have ho := hok _ (List.getElem_mem h)
  have := rec_r ho.1 ho.2 ((l.drop (i + 1)).flatMap recF ++ List.replicate (224 - (4 + 41 * l.length)) 0)
  exact ⟨this.1, this.2.1⟩
theorem page_back {d nx : Int} {l : List Rc} (hd : 0 ≤ d ∧ d ≤ 6) (h : 0 ≤ nx ∧ nx < 256) (hl : l.length ≤ 5) (hok : ∀ r ∈ l, okR r) : rOk (padP (pgP d nx l l.length)) = true ∧ rDp (padP (pgP d nx l l.length)) = d ∧ rNx (padP (pgP d nx l l.length)) = nx ∧ rRc (padP (pgP d nx l l.length)) = l := by
  have e : ∃ T, padP (pgP d nx l l.length) = 66 :: (d % 256) :: (nx % 256) :: (l.length : Int) :: T := ⟨_, rfl⟩
  obtain ⟨T, hT⟩ := e
  have m1 : mkF (padP (pgP d nx l l.length)) = 66 := by rw [hT]; unfold mkF; simp [beN]
  have m0 : dpF (padP (pgP d nx l l.length)) = d := by rw [hT]; unfold dpF; simp [beN]; omega
  have m2 : nxF (padP (pgP d nx l l.length)) = nx := by rw [hT]; unfold nxF; simp [beN]; omega
  have m3 : cnF (padP (pgP d nx l l.length)) = l.length := by rw [hT]; unfold cnF; simp [beN]
  have hg : rGd (padP (pgP d nx l l.length)) = true := decide_eq_true ⟨m1, by omega, by omega⟩
  have hy : rYs (padP (pgP d nx l l.length)) = true := by
    unfold rYs
    rw [hg, m3, Int.toNat_natCast, Bool.true_and]
    unfold rAl
    rw [List.all_eq_true]
    intro j hj
    exact (rSt_ok hok (List.mem_range.1 hj)).1
  refine ⟨?_, ?_, ?_, ?_⟩
  · unfold rOk
    rw [if_pos hy, m3, Int.toNat_natCast, rSt_pg d nx hok l.length (Nat.le_refl _), List.drop_length]
    unfold noF
    simp
  · unfold rDp; rw [if_pos hy, m0]
  · unfold rNx; rw [if_pos hy, m2]
  · unfold rRc
    rw [if_pos hy, m3, Int.toNat_natCast]
    unfold rcsB
    refine List.ext_getElem (by simp) (fun i h1 h2 => ?_)
    rw [List.getElem_map, List.getElem_range, (rSt_ok hok h2).2]
end Go.Proofs.Ytldlmmpniddbcaa
