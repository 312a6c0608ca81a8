/- Walks by the logic of values. -/
import Derived.Test.YtldlmmpniddbcaaKoVn
import Derived.Test.YtldlmmpniddbcaaKoVc
namespace Go.Proofs.Ytldlmmpniddbcaa
open Go.Vm
set_option linter.unusedVariables false
set_option linter.unusedSimpArgs false
attribute [local irreducible] Go.Vm.beB Go.Vm.fieldB
abbrev Im := Int × List Int
abbrev imR (q : Int × List Int) : List V := V.sc (.int .i64 q.1) :: q.2.map bV
def okR (r : Rc) : Prop := okRc r ∧ r.val.size < 16
def padP (b : List Int) : List Int := b ++ List.replicate (224 - b.length) 0
theorem padP_len {b : List Int} (h : b.length ≤ 224) : (padP b).length = 224 := by simp only [padP, List.length_append, List.length_replicate]; omega
theorem padP_set {b : List Int} (h : b.length ≤ 224) : setSeg (List.replicate 224 (bV 0)) 0 (bytesV b).flatten = (padP b).map bV := by
  unfold setSeg padP
  rw [bytesV_flat, List.length_map, List.take_zero, List.nil_append, List.drop_replicate, List.map_append, List.map_replicate, Nat.zero_add]
theorem recB_len (r : Rc) : (recB r).length = 25 := by unfold recB; simp [beB_len]
theorem recF_len {r : Rc} (h : r.val.size < 16) : (recF r).length = 41 := by unfold recF; rw [List.length_append, recB_len, fieldB_len h]
def pgP (d nx : Int) (l : List Rc) (i : Nat) : List Int := [66, d % 256, nx % 256, (l.length : Int)] ++ (l.take i).flatMap recF
theorem fl_len {l : List Rc} (h : ∀ r ∈ l, okR r) : (l.flatMap recF).length = 41 * l.length := by
  induction l with
  | nil => rfl
  | cons p l ih =>
    rw [List.flatMap_cons, List.length_append, recF_len (h p (List.mem_cons_self ..)).2, ih fun r hr => h r (List.mem_cons_of_mem _ hr), List.length_cons]; omega
theorem pgP_len (d nx : Int) {l : List Rc} (h : ∀ r ∈ l, okR r) {i : Nat} (hi : i ≤ l.length) : (pgP d nx l i).length = 4 + 41 * i := by
  unfold pgP; rw [List.length_append, fl_len fun r hr => h r (List.mem_of_mem_take hr), List.length_take, Nat.min_eq_left hi]; rfl
theorem pgP_s (d nx : Int) {l : List Rc} {i : Nat} (h : (i : Int) < l.length) : pgP d nx l (i + 1) = pgP d nx l i ++ recF (at' l (i : Int)) := by
  unfold pgP
  rw [List.take_add_one, rat h]
  simp
theorem at_okR {l : List Rc} (hok : ∀ p ∈ l, okR p) {i : Nat} (h : (i : Int) < l.length) : okR (at' l (i : Int)) := hok _ (List.mem_of_getElem? (rat h))
/-! reading -/
def rS0 (b : List Int) : List Int × Bool := (b.drop 4, false)
def rSt (b : List Int) : Nat → List Int × Bool
  | 0 => rS0 b
  | i + 1 => q6 (rSt b i)
def rcsB (b : List Int) (i : Nat) : List Rc := (List.range i).map fun j => rrV (rSt b j)
theorem rcsB_s (b : List Int) (i : Nat) : (rcsB b (i + 1)).map rcC = (rcsB b i).map rcC ++ [rcC (rrV (rSt b i))] := by unfold rcsB; rw [List.range_succ]; simp
theorem rcsB_len (b : List Int) (i : Nat) : (rcsB b i).length = i := by simp [rcsB]
theorem okS_q6 {s : List Int × Bool} (h : okS s) : okS (q6 s) := by
  have o5 : okS (q5 s) := okS_rS (okS_rS (okS_rS (okS_rS (okS_rS h 8) 8) 4) 4) 1
  exact ⟨rdX_bytes o5.1 _ _, Nat.le_trans (rdX_len _ _ _) o5.2⟩
theorem okS_rSt {b : List Int} (hb : Byts b) (hl : b.length = 224) : ∀ i, okS (rSt b i)
  | 0 => ⟨bytes_drop hb 4, by show (b.drop 4).length ≤ _; rw [List.length_drop]; omega⟩
  | i + 1 => okS_q6 (okS_rSt hb hl i)
def mkF (b : List Int) : Int := beN (b.take 1)
def dpF (b : List Int) : Int := beN ((b.drop 1).take 1)
def nxF (b : List Int) : Int := beN (((b.drop 1).drop 1).take 1)
def cnF (b : List Int) : Int := beN ((((b.drop 1).drop 1).drop 1).take 1)
theorem b1_bd {b : List Int} (hb : Byts b) (h : 1 ≤ b.length) : 0 ≤ beN (b.take 1) ∧ beN (b.take 1) < 256 := by simpa using beN_lt 1 b hb h
theorem mk_bd {b : List Int} (hb : Byts b) (h : b.length = 224) : 0 ≤ mkF b ∧ mkF b < 256 := b1_bd hb (by omega)
theorem dp_bd {b : List Int} (hb : Byts b) (h : b.length = 224) : 0 ≤ dpF b ∧ dpF b < 256 := b1_bd (bytes_drop hb _) (by simp; omega)
theorem nx_bd {b : List Int} (hb : Byts b) (h : b.length = 224) : 0 ≤ nxF b ∧ nxF b < 256 := b1_bd (bytes_drop (bytes_drop hb _) _) (by simp; omega)
theorem cn_bd {b : List Int} (hb : Byts b) (h : b.length = 224) : 0 ≤ cnF b ∧ cnF b < 256 := b1_bd (bytes_drop (bytes_drop (bytes_drop hb _) _) _) (by simp; omega)
def rGd (b : List Int) : Bool := decide (mkF b = 66 ∧ dpF b ≤ 6 ∧ cnF b ≤ 5)
def rAl (b : List Int) (i : Nat) : Bool := (List.range i).all fun j => rrOK (rSt b j)
theorem rAl_s {b : List Int} {i : Nat} (h : rAl b i = true) (h2 : rrOK (rSt b i) = true) : rAl b (i + 1) = true := by
  unfold rAl at h ⊢; rw [List.range_succ, List.all_append, h]; simp [h2]
theorem rAl_f {b : List Int} {i n : Nat} (h : i < n) (h2 : rrOK (rSt b i) = false) : rAl b n = false := by
  unfold rAl; rw [List.all_eq_false]; exact ⟨i, List.mem_range.2 h, by rw [h2]; simp⟩
def rYs (b : List Int) : Bool := rGd b && rAl b (cnF b).toNat
def rDp (b : List Int) : Int := if rYs b = true then dpF b else 0
def rNx (b : List Int) : Int := if rYs b = true then nxF b else 0
def rRc (b : List Int) : List Rc := if rYs b = true then rcsB b (cnF b).toNat else []
def rOk (b : List Int) : Bool := if rYs b = true then noF (rSt b (cnF b).toNat).1 (rSt b (cnF b).toNat).2 else false
theorem rYs_gd {b : List Int} (h : rYs b = true) : mkF b = 66 ∧ dpF b ≤ 6 ∧ cnF b ≤ 5 ∧ rAl b (cnF b).toNat = true := by
  unfold rYs at h
  rw [Bool.and_eq_true] at h
  have h1 := of_decide_eq_true h.1
  exact ⟨h1.1, h1.2.1, h1.2.2, h.2⟩
theorem rRc_len {b : List Int} (hb : Byts b) (hl : b.length = 224) : (rRc b).length ≤ 5 := by
  unfold rRc
  split
  · rename_i h; have h1 := rYs_gd h; have h2 := cn_bd hb hl; rw [rcsB_len]; omega
  · simp
/-! a chain of pages -/
def getG (pF : Int → List Int) (oF : Int → Bool) : Nat → Int → Int → List Int → List Rc → Option (Int × List Int × List Rc)
  | 0, _, _, _, _ => none
  | k + 1, m, d, gs, ps => if oF m = false then none else if gs.length = 8 then none else if rOk (pF m) = false then none else if 0 < gs.length ∧ (rDp (pF m) ≠ d ∨ ps.length < 5 * gs.length ∧ 0 < (rRc (pF m)).length) then none else
      if rNx (pF m) = 0 then some (rDp (pF m), gs ++ [m], ps ++ rRc (pF m)) else getG pF oF k (rNx (pF m)) (rDp (pF m)) (gs ++ [m]) (ps ++ rRc (pF m))
section
variable {pF : Int → List Int} {oF : Int → Bool} {k : Nat} {m d : Int} {gs : List Int} {ps : List Rc}
theorem gg_a (h : oF m = false) : getG pF oF (k + 1) m d gs ps = none := by simp [getG, h]
theorem gg_b (h : gs.length = 8) : getG pF oF (k + 1) m d gs ps = none := by simp [getG, h]
theorem gg_c (h : rOk (pF m) = false) : getG pF oF (k + 1) m d gs ps = none := by simp [getG, h]
theorem gg_d (h : 0 < gs.length ∧ (rDp (pF m) ≠ d ∨ ps.length < 5 * gs.length ∧ 0 < (rRc (pF m)).length)) : getG pF oF (k + 1) m d gs ps = none := by simp only [getG]; rw [if_pos h]; simp
theorem gg_e (h1 : oF m = true) (h2 : ¬ gs.length = 8) (h3 : rOk (pF m) = true) (h4 : ¬ (0 < gs.length ∧ (rDp (pF m) ≠ d ∨ ps.length < 5 * gs.length ∧ 0 < (rRc (pF m)).length))) (h5 : rNx (pF m) = 0) : getG pF oF (k + 1) m d gs ps = some (rDp (pF m), gs ++ [m], ps ++ rRc (pF m)) := by
  simp only [getG]; rw [if_neg (by rw [h1]; simp), if_neg h2, if_neg (by rw [h3]; simp), if_neg h4, if_pos h5]
theorem gg_f (h1 : oF m = true) (h2 : ¬ gs.length = 8) (h3 : rOk (pF m) = true) (h4 : ¬ (0 < gs.length ∧ (rDp (pF m) ≠ d ∨ ps.length < 5 * gs.length ∧ 0 < (rRc (pF m)).length))) (h5 : ¬ rNx (pF m) = 0) : getG pF oF (k + 1) m d gs ps = getG pF oF k (rNx (pF m)) (rDp (pF m)) (gs ++ [m]) (ps ++ rRc (pF m)) := by
  simp only [getG]; rw [if_neg (by rw [h1]; simp), if_neg h2, if_neg (by rw [h3]; simp), if_neg h4, if_neg h5]
end
/-! there and back -/
theorem beB_1 (v : Int) : beB 1 v = [v % 256] := by rw [beB_cons 0 v]; simp [beB]
theorem tk {X : List Int} (hb : Byts X) {m : Nat} (h : m ≤ X.length) : beB m (beN (X.take m)) = X.take m := by
  have h1 := beB_beN (b := X.take m) (bytes_take hb m)
  rw [List.length_take, Nat.min_eq_left h] at h1
  exact h1
theorem rSt_back {p : List Int} (hb : Byts p) (hl : p.length = 224) : ∀ i, rAl p i = true → (p.drop 4 = (rcsB p i).flatMap recF ++ (rSt p i).1) ∧ (rSt p i).2 = false ∧ ∀ r ∈ rcsB p i, okR r
  | 0, _ => ⟨by simp [rcsB, rSt, rS0], rfl, fun r hr => by simp [rcsB] at hr⟩
  | i + 1, h => by
    have h1 : rAl p i = true := by
      unfold rAl at h ⊢; rw [List.range_succ, List.all_append, Bool.and_eq_true] at h; exact h.1
    have h2 : rrOK (rSt p i) = true := by
      unfold rAl at h; rw [List.range_succ, List.all_append, Bool.and_eq_true] at h; simpa using h.2
    obtain ⟨a1, a2, a3⟩ := rSt_back hb hl i h1
    obtain ⟨c1, c2, c3, c4, c5⟩ := rec_s (okS_rSt hb hl i) h2
    have e : rcsB p (i + 1) = rcsB p i ++ [rrV (rSt p i)] := by unfold rcsB; rw [List.range_succ]; simp
    refine ⟨?_, c3, fun r hr => ?_⟩
    · rw [e, List.flatMap_append, List.append_assoc, a1, c2]
      simp [rSt]
    · rw [e] at hr
      rcases List.mem_append.1 hr with hr | hr
      · exact a3 r hr
      · obtain rfl := List.mem_singleton.1 hr; exact ⟨c4, c5⟩
theorem read_back {p : List Int} (hb : Byts p) (hl : p.length = 224) (ho : rOk p = true) : padP (pgP (rDp p) (rNx p) (rRc p) (rRc p).length) = p ∧ ∀ r ∈ rRc p, okR r := by
  have hy : rYs p = true := by
    unfold rOk at ho
    cases h : rYs p with
    | true => rfl
    | false => rw [h] at ho; simp at ho
  obtain ⟨h1, h2, h3, h4⟩ := rYs_gd hy
  have b1 := dp_bd hb hl
  have b2 := nx_bd hb hl
  have b3 := cn_bd hb hl
  obtain ⟨cn, hcn⟩ : ∃ cn : Nat, (cn : Int) = cnF p := ⟨(cnF p).toNat, by omega⟩
  have e0 : (cnF p).toNat = cn := by omega
  rw [e0] at h4
  have e1 : rRc p = rcsB p cn := by unfold rRc; rw [if_pos hy, e0]
  have e2 : rNx p = nxF p := by unfold rNx; rw [if_pos hy]
  have e3 : rDp p = dpF p := by unfold rDp; rw [if_pos hy]
  have e4 : noF (rSt p cn).1 (rSt p cn).2 = true := by unfold rOk at ho; rw [if_pos hy, e0] at ho; exact ho
  obtain ⟨a1, a2, a3⟩ := rSt_back hb hl cn h4
  have hlen := rcsB_len p cn
  have hf := fl_len a3
  have a4 : (rSt p cn).1 = List.replicate (224 - (4 + 41 * cn)) 0 := by
    rw [List.eq_replicate_iff]
    constructor
    · have := congrArg List.length a1
      rw [List.length_drop, List.length_append, hf, hlen] at this
      omega
    · intro x hx
      unfold noF at e4
      rw [a2, Bool.not_false, Bool.and_true, List.all_eq_true] at e4
      simpa using e4 x hx
  refine ⟨?_, by rw [e1]; exact a3⟩
  have t0 := tk hb (m := 1) (by omega)
  have t1 := tk (bytes_drop hb 1) (m := 1) (by rw [List.length_drop]; omega)
  have t2 := tk (bytes_drop (bytes_drop hb 1) 1) (m := 1) (by rw [List.length_drop, List.length_drop]; omega)
  have t3 := tk (bytes_drop (bytes_drop (bytes_drop hb 1) 1) 1) (m := 1) (by rw [List.length_drop, List.length_drop, List.length_drop]; omega)
  rw [beB_1] at t0 t1 t2 t3
  have q0 : beN (p.take 1) = 66 := h1
  have q1 : beN ((p.drop 1).take 1) = dpF p := rfl
  have q2 : beN (((p.drop 1).drop 1).take 1) = nxF p := rfl
  have q3 : beN ((((p.drop 1).drop 1).drop 1).take 1) = cnF p := rfl
  rw [q0] at t0; rw [q1] at t1; rw [q2] at t2; rw [q3, ← hcn] at t3
  rw [e1, e2, e3, hlen]
  unfold padP
  rw [pgP_len _ _ a3 (by omega)]
  unfold pgP
  rw [hlen, List.take_of_length_le (by omega), List.append_assoc, ← a4, ← a1]
  conv => rhs; rw [← List.take_append_drop 4 p]
  congr 1
  rw [show 4 = 1 + (1 + (1 + 1)) from rfl, List.take_add, List.take_add, List.take_add, ← t0, ← t1, ← t2, ← t3]
  have : ((cn : Int)) % 256 = cn := by omega
  rw [this]
  rfl
end Go.Proofs.Ytldlmmpniddbcaa
