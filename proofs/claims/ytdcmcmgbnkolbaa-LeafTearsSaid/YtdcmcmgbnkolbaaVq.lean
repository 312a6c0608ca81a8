/- Walks by the logic of values. -/
import Derived.Test.YtdcmcmgbnkolbaaVa
import Derived.Test.YtdcmcmgbnkolbaaVb
import Derived.Test.YtdcmcmgbnkolbaaVc
import Derived.Test.YtdcmcmgbnkolbaaVd
import Derived.Test.YtdcmcmgbnkolbaaVe
import Derived.Test.YtdcmcmgbnkolbaaVf
import Derived.Test.YtdcmcmgbnkolbaaVg
import Derived.Test.YtdcmcmgbnkolbaaVh
import Derived.Test.YtdcmcmgbnkolbaaVi
import Derived.Test.YtdcmcmgbnkolbaaVj
import Derived.Test.YtdcmcmgbnkolbaaVk
import Derived.Test.YtdcmcmgbnkolbaaVl
import Derived.Test.YtdcmcmgbnkolbaaVm
import Derived.Test.YtdcmcmgbnkolbaaVo
import Derived.Test.YtdcmcmgbnkolbaaVmP
namespace Go.Proofs.Ytdcmcmgbnkolbaa
open Go.Vm
set_option linter.unusedVariables false
set_option linter.unusedSimpArgs false
theorem step_neq22 {o : Oper} {l : List (Nat × V)} {x y : Operand} {a b : List Int} {q : Bool} {ty2 : TypeId} (ho : o.op = .binOp .neq 22 x y ty2) (hx : lko l x = some (.agg (a.map bV))) (hy : lko l y = some (.agg (b.map bV))) (ha : a.length = 224) (hb : b.length = 224) (hq : decide (a = b) = q) : StepOK Try.prog o (mk l) [] [] (.sc (.bool (!q))) := by
  subst hq
  rw [bV_sc] at hx hy
  refine step_eq_agg (xs := a.map fun x => Value.int .u8 x) (ys := b.map fun x => Value.int .u8 x) ho (ev_mk hx) (ev_mk hy) shape22 (by omega) ⟨_, Try.underlying22, rfl⟩ eqg22 (fits_ints a 224 ha) (fits_ints b 224 hb) (.inr ⟨rfl, ?_⟩)
  rw [eqCs_ints a b (by omega)]
theorem tr_in {b i : Int} (hb0 : 0 ≤ b ∧ b ≤ 8) (hi0 : 0 ≤ i ∧ i ≤ 3) : insideB 24 (b + i * 4) 4 = true := decide_eq_true (by omega)
theorem tr_w (k1 k2 : Nat) (hkk : k1 ≠ k2) (S : List (List Int)) (hS : ∀ r ∈ S, r.length = 64) (hL : S.length = 24) (w : Int) (hw : 0 ≤ w ∧ w ≤ 1000) (b i : Int) (hb0 : 0 ≤ b ∧ b ≤ 8) (hi0 : 0 ≤ i ∧ i ≤ 3) (p : List Int) (hp : p.length = 224) (v : Int) (hv : U64 v) : Does Try.prog 13 [.ref k1 0, .sc (.int .i64 b), .sc (.int .i64 i), .agg (p.map bV), .sc (.int .u64 v)] [(k1, .cells [.msl k2 0 (S).length (S).length 64, .sc (.int .i64 (w)), .sc (.int .i64 (-1)), .sl 1 (boolsV ([])), .sc (.bool (false))]), (k2, .cells (S.flatten.map bV))] [(k2, .cells ((mixS S (b + i * 4) (putS p v 4) (-1) []).flatten.map bV)), (k1, .cells [.msl k2 0 (mixS S (b + i * 4) (putS p v 4) (-1) []).length (mixS S (b + i * 4) (putS p v 4) (-1) []).length 64, .sc (.int .i64 (w + 1)), .sc (.int .i64 (-1)), .sl 1 (boolsV ([])), .sc (.bool (false))])] (.sc (.int .i64 0)) := by
  have hl : ((putS p v 4).length : Int) = 4 := by rw [putS_len]; rfl
  have h := lw_ok k1 k2 ⟨S, w, -1, [], false⟩ hkk ⟨hS, by show S.length ≤ 16384; omega, show 0 ≤ w ∧ w ≤ 1000000 from ⟨by omega, by omega⟩, by constructor <;> simp, by simp⟩ b i (by constructor <;> omega) (by constructor <;> omega) p hp v hv (by omega) (by omega) (by show i ≤ (S.length : Int); rw [hL]; omega) (b + i * 4) (w64 (by omega))
  have hin : insideB S.length (b + i * 4) (putS p v 4).length = true := by rw [hl, hL]; exact tr_in hb0 hi0
  have e1 : stepW ⟨S, w, -1, [], false⟩ (b + i * 4) (putS p v 4) = ⟨mixS S (b + i * 4) (putS p v 4) (-1) [], w + 1, -1, [], false⟩ := by unfold stepW; rw [if_pos ⟨hin, rfl⟩, if_neg (by show ¬ (-1 : Int) = 0; omega)]; rfl
  have e2 : codeW ⟨S, w, -1, [], false⟩ (b + i * 4) (putS p v 4) = 0 := by unfold codeW; rw [if_pos hin, if_neg (by simp)]
  rw [e1, e2] at h
  exact h
theorem tr_t (k1 k2 : Nat) (hkk : k1 ≠ k2) (S : List (List Int)) (hS : ∀ r ∈ S, r.length = 64) (hL : S.length = 24) (w : Int) (hw : 0 ≤ w ∧ w ≤ 1000) (kq : List Bool) (hkq : kq.length ≤ 60) (b i : Int) (hb0 : 0 ≤ b ∧ b ≤ 8) (hi0 : 0 ≤ i ∧ i ≤ 3) (p : List Int) (hp : p.length = 224) (v : Int) (hv : U64 v) : Does Try.prog 13 [.ref k1 0, .sc (.int .i64 b), .sc (.int .i64 i), .agg (p.map bV), .sc (.int .u64 v)] [(k1, .cells [.msl k2 0 (S).length (S).length 64, .sc (.int .i64 (w)), .sc (.int .i64 (0)), .sl 1 (boolsV (kq)), .sc (.bool (false))]), (k2, .cells (S.flatten.map bV))] [(k2, .cells ((mixS S (b + i * 4) (putS p v 4) 0 kq).flatten.map bV)), (k1, .cells [.msl k2 0 (mixS S (b + i * 4) (putS p v 4) 0 kq).length (mixS S (b + i * 4) (putS p v 4) 0 kq).length 64, .sc (.int .i64 (w)), .sc (.int .i64 (0)), .sl 1 (boolsV (kq)), .sc (.bool (true))])] (.sc (.int .i64 4)) := by
  have hl : ((putS p v 4).length : Int) = 4 := by rw [putS_len]; rfl
  have h := lw_ok k1 k2 ⟨S, w, 0, kq, false⟩ hkk ⟨hS, by show S.length ≤ 16384; omega, show 0 ≤ w ∧ w ≤ 1000000 from ⟨by omega, by omega⟩, by constructor <;> simp, hkq⟩ b i (by constructor <;> omega) (by constructor <;> omega) p hp v hv (by omega) (by omega) (by show i ≤ (S.length : Int); rw [hL]; omega) (b + i * 4) (w64 (by omega))
  have hin : insideB S.length (b + i * 4) (putS p v 4).length = true := by rw [hl, hL]; exact tr_in hb0 hi0
  have e1 : stepW ⟨S, w, 0, kq, false⟩ (b + i * 4) (putS p v 4) = ⟨mixS S (b + i * 4) (putS p v 4) 0 kq, w, 0, kq, true⟩ := by unfold stepW; rw [if_pos ⟨hin, rfl⟩, if_pos rfl]
  have e2 : codeW ⟨S, w, 0, kq, false⟩ (b + i * 4) (putS p v 4) = 4 := by unfold codeW; rw [if_pos hin, if_pos (.inr rfl)]
  rw [e1, e2] at h
  exact h
theorem tr_r (k1 k2 : Nat) (hkk : k1 ≠ k2) (S : List (List Int)) (hS : ∀ r ∈ S, r.length = 64) (hL : S.length = 24) (w : Int) (hw : 0 ≤ w ∧ w ≤ 1000) (b i : Int) (hb0 : 0 ≤ b ∧ b ≤ 8) (hi0 : 0 ≤ i ∧ i ≤ 3) (hB : ∀ r ∈ S, bytes r) (l : List (List Int)) (hl : takeN S (b + i * 4).toNat 4 = l) (q : List Int) (hq : getP l = q) (nn : Int) (hn : getN l = nn) (t : Bool) (ht : getB l = t) : Does Try.prog 15 [.ref k1 0, .sc (.int .i64 b), .sc (.int .i64 i)] [(k1, .cells [.msl k2 0 (S).length (S).length 64, .sc (.int .i64 (w)), .sc (.int .i64 (-1)), .sl 1 (boolsV ([])), .sc (.bool (false))]), (k2, .cells (S.flatten.map bV))] [] (.tup [.agg (q.map bV), .sc (.int .u64 nn), .sc (.bool t), .sc (.int .i64 0)]) := by
  have hc : codeR ⟨S, w, -1, [], false⟩ (b + i * 4) 4 = 0 := by unfold codeR; rw [if_pos (by show insideB S.length _ _ = true; rw [hL]; exact tr_in hb0 hi0), if_neg (by simp)]
  have h := lr_ok k1 k2 ⟨S, w, -1, [], false⟩ hkk ⟨hS, by show S.length ≤ 16384; omega, show 0 ≤ w ∧ w ≤ 1000000 from ⟨by omega, by omega⟩, by constructor <;> simp, by simp⟩ b i (by constructor <;> omega) (by constructor <;> omega) (by omega) (by omega) (by show i ≤ (S.length : Int); rw [hL]; omega) (b + i * 4) (w64 (by omega)) hc hB
  have hr : readS ⟨S, w, -1, [], false⟩ (b + i * 4) 4 = l := by unfold readS; rw [if_pos hc]; exact hl
  rw [hr, hq, hn, ht] at h
  exact h
theorem takeN_at {S : List (List Int)} {x n : Nat} (h : x + n ≤ S.length) : takeN S x n = (List.range n).map fun q : Nat => at' S ((x + q : Nat) : Int) := by
  apply List.ext_getElem?
  intro i
  unfold takeN
  by_cases hi : i < n
  · rw [List.getElem?_take, if_pos hi, List.getElem?_drop, List.getElem?_map, List.getElem?_range hi, Option.map_some, at_nat _ _ (by omega), List.getElem?_eq_getElem (by omega)]
  · rw [List.getElem?_take, if_neg hi, List.getElem?_eq_none (by simp; omega)]
theorem list_at {l : List (List Int)} {n : Nat} (h : l.length = n) : l = (List.range n).map fun q : Nat => at' l (q : Int) := by
  have := takeN_at (S := l) (x := 0) (n := n) (by omega)
  unfold takeN at this
  rw [List.drop_zero, List.take_of_length_le (by omega)] at this
  simpa using this
theorem at_mix {S : List (List Int)} {x : Int} {l : List (List Int)} {f : Int} {kp : List Bool} {k : Nat} (h : k < S.length) : at' (mixS S x l f kp) (k : Int) = mixAt S x l f kp k := by
  rw [at_nat _ _ (by rw [mixS_len]; exact h)]; simp [mixS]
theorem mix_out {S : List (List Int)} {x : Int} {l : List (List Int)} {f : Int} {kp : List Bool} {k : Nat} (h : k < S.length) (ho : (k : Int) < x ∨ x + l.length ≤ k) : at' (mixS S x l f kp) (k : Int) = at' S (k : Int) := by
  rw [at_mix h]
  rcases ho with ho | ho
  · exact mixAt_o1 (by omega)
  · exact mixAt_o2 (by omega)
theorem mix_in {S : List (List Int)} {x : Int} {l : List (List Int)} {f : Int} {kp : List Bool} {k q : Nat} (h : k < S.length) (hk : (k : Int) = x + q) (hq : q < l.length) : at' (mixS S x l f kp) (k : Int) = if keptB f kp q = true then at' l (q : Int) else at' S (k : Int) := by
  rw [at_mix h]
  unfold mixAt
  have e : (k : Int) - x = q := by omega
  rw [e]
  by_cases h1 : keptB f kp q = true
  · rw [if_pos ⟨by omega, by omega, h1⟩, if_pos h1]
  · rw [if_neg (fun hc => h1 hc.2.2), if_neg h1]
def tS1 (b i a m1 : Int) : List (List Int) := mixS (zS 24) (b + i * 4) (putS (fillP a 1) m1 4) (-1) []
def tS2 (b i a m1 : Int) : List (List Int) := mixS (tS1 b i a m1) (b + (i + 1) % 4 * 4) (putS (fillP 9 9) 9 4) (-1) []
def tS3 (b i a m1 c m2 : Int) (kp : List Bool) : List (List Int) := mixS (tS2 b i a m1) (b + i * 4) (putS (fillP c 2) m2 4) 0 kp
def tL (a m1 c m2 : Int) (kp : List Bool) : List (List Int) := (List.range 4).map fun q : Nat => if keptB 0 kp q = true then at' (putS (fillP c 2) m2 4) (q : Int) else at' (putS (fillP a 1) m1 4) (q : Int)
theorem tS_len (b i a m1 c m2 : Int) (kp : List Bool) : (tS1 b i a m1).length = 24 ∧ (tS2 b i a m1).length = 24 ∧ (tS3 b i a m1 c m2 kp).length = 24 := by
  unfold tS3 tS2 tS1; simp only [mixS_len, zS_len, and_self]
theorem tS_row (b i a m1 c m2 : Int) (kp : List Bool) : (∀ r ∈ tS1 b i a m1, r.length = 64) ∧ (∀ r ∈ tS2 b i a m1, r.length = 64) ∧ ∀ r ∈ tS3 b i a m1 c m2 kp, r.length = 64 :=
  have h1 : ∀ r ∈ tS1 b i a m1, r.length = 64 := mixS_row _ _ _ _ _ (zS_row 24) (putS_row (fillP_len a 1) m1)
  have h2 : ∀ r ∈ tS2 b i a m1, r.length = 64 := mixS_row _ _ _ _ _ h1 (putS_row (fillP_len 9 9) 9)
  ⟨h1, h2, mixS_row _ _ _ _ _ h2 (putS_row (fillP_len c 2) m2)⟩
theorem tS_bytes (b i a m1 c m2 : Int) (kp : List Bool) (ha : 0 ≤ a ∧ a < 256) (hc : 0 ≤ c ∧ c < 256) : ∀ r ∈ tS3 b i a m1 c m2 kp, bytes r :=
  have h1 : ∀ r ∈ tS1 b i a m1, bytes r := mixS_bytes _ _ _ _ _ (zS_bytes 24) (okL_put (fillP_len a 1) (fillP_bytes ha (by omega)) m1).2
  have h2 : ∀ r ∈ tS2 b i a m1, bytes r := mixS_bytes _ _ _ _ _ h1 (okL_put (fillP_len 9 9) (fillP_bytes (by omega) (by omega)) 9).2
  mixS_bytes _ _ _ _ _ h2 (okL_put (fillP_len c 2) (fillP_bytes hc (by omega)) m2).2
theorem emod_cases (i : Int) (h : 0 ≤ i ∧ i ≤ 3) : ((i + 1) % 4 = i + 1 ∧ i < 3) ∨ ((i + 1) % 4 = 0 ∧ i = 3) := by omega
theorem tear_read {b i : Int} (hb0 : 0 ≤ b ∧ b ≤ 8) (hi0 : 0 ≤ i ∧ i ≤ 3) (a m1 c m2 : Int) (kp : List Bool) : takeN (tS3 b i a m1 c m2 kp) (b + i * 4).toNat 4 = tL a m1 c m2 kp := by
  obtain ⟨l1, l2, l3⟩ := tS_len b i a m1 c m2 kp
  rw [takeN_at (by omega)]
  unfold tL
  apply List.map_congr_left
  intro q hq
  rw [List.mem_range] at hq
  have hm := emod_cases i hi0
  unfold tS3
  rw [mix_in (q := q) (by omega) (by omega) (by rw [putS_len]; omega)]
  congr 1
  unfold tS2
  rw [mix_out (by omega) (by rw [putS_len]; omega)]
  unfold tS1
  rw [mix_in (q := q) (by rw [zS_len]; omega) (by omega) (by rw [putS_len]; omega), if_pos (kept_t (by omega))]
theorem tear_read9 {b i : Int} (hb0 : 0 ≤ b ∧ b ≤ 8) (hi0 : 0 ≤ i ∧ i ≤ 3) (a m1 c m2 : Int) (kp : List Bool) : takeN (tS3 b i a m1 c m2 kp) (b + (i + 1) % 4 * 4).toNat 4 = putS (fillP 9 9) 9 4 := by
  obtain ⟨l1, l2, l3⟩ := tS_len b i a m1 c m2 kp
  have hm := emod_cases i hi0
  rw [takeN_at (by omega), list_at (putS_len (fillP 9 9) 9 4)]
  apply List.map_congr_left
  intro q hq
  rw [List.mem_range] at hq
  unfold tS3
  rw [mix_out (by omega) (by rw [putS_len]; omega)]
  unfold tS2
  rw [mix_in (q := q) (by omega) (by omega) (by rw [putS_len]; omega), if_pos (kept_t (by omega))]
theorem put_all {p : List Int} (hp : p.length = 224) {v : Int} (hv : U64 v) : getP (putS p v 4) = p ∧ getN (putS p v 4) = v ∧ getB (putS p v 4) = true := by
  rw [getP, getN, getB_put hp, if_pos rfl, if_pos rfl, pgO_put hp, at_put hp, beN_8v hv]; exact ⟨rfl, rfl, rfl⟩
theorem mark_put {p : List Int} (hp : p.length = 224) {v : Int} (hv : U64 v) {q : Nat} (h : q < 4) : beN ((at' (putS p v 4) (q : Int)).drop 56) = v := by
  rw [drop_put hp v _ (at_memS (by rw [putS_len]; exact h)), beN_8v hv]
def cntK (kp : List Bool) : Nat → Int
  | 0 => 0
  | j + 1 => cntK kp j + if keptB 0 kp j = true then 1 else 0
theorem cntK_le (kp : List Bool) : ∀ j, 0 ≤ cntK kp j ∧ cntK kp j ≤ j
  | 0 => by simp [cntK]
  | j + 1 => by have := cntK_le kp j; unfold cntK; split <;> omega
theorem cnt_none {kp : List Bool} (h : cntK kp 4 = 0) : ∀ q, q < 4 → keptB 0 kp q = false := by
  simp only [cntK] at h
  intro q hq
  cases h0 : keptB 0 kp q with
  | false => rfl
  | true =>
    have : q = 0 ∨ q = 1 ∨ q = 2 ∨ q = 3 := by omega
    rcases this with rfl | rfl | rfl | rfl <;> simp only [h0, if_true] at h <;> (exfalso; revert h; (repeat' split) <;> omega)
theorem cnt_all {kp : List Bool} (h : cntK kp 4 = 4) : ∀ q, q < 4 → keptB 0 kp q = true := by
  simp only [cntK] at h
  intro q hq
  cases h0 : keptB 0 kp q with
  | true => rfl
  | false =>
    have : q = 0 ∨ q = 1 ∨ q = 2 ∨ q = 3 := by omega
    rcases this with rfl | rfl | rfl | rfl <;> simp only [h0, Bool.false_eq_true, if_false] at h <;> (exfalso; revert h; (repeat' split) <;> omega)
theorem cnt_some {kp : List Bool} (h0 : cntK kp 4 ≠ 0) (h4 : cntK kp 4 ≠ 4) : (∃ q, q < 4 ∧ keptB 0 kp q = true) ∧ ∃ q, q < 4 ∧ keptB 0 kp q = false := by
  constructor
  · refine Classical.byContradiction fun hn => h0 ?_
    have : ∀ q, q < 4 → ¬ keptB 0 kp q = true := fun q hq hk => hn ⟨q, hq, hk⟩
    simp only [cntK]; rw [if_neg (this 0 (by omega)), if_neg (this 1 (by omega)), if_neg (this 2 (by omega)), if_neg (this 3 (by omega))]; rfl
  · refine Classical.byContradiction fun hn => h4 ?_
    have : ∀ q, q < 4 → keptB 0 kp q = true := fun q hq => by cases hk : keptB 0 kp q with | true => rfl | false => exact absurd ⟨q, hq, hk⟩ hn
    simp only [cntK]; rw [if_pos (this 0 (by omega)), if_pos (this 1 (by omega)), if_pos (this 2 (by omega)), if_pos (this 3 (by omega))]; rfl
theorem tL_none (a m1 c m2 : Int) {kp : List Bool} (h : cntK kp 4 = 0) : tL a m1 c m2 kp = putS (fillP a 1) m1 4 := by
  rw [list_at (putS_len (fillP a 1) m1 4)]
  apply List.map_congr_left
  intro q hq
  rw [List.mem_range] at hq
  rw [if_neg (by rw [cnt_none h q hq]; simp)]
theorem tL_all (a m1 c m2 : Int) {kp : List Bool} (h : cntK kp 4 = 4) : tL a m1 c m2 kp = putS (fillP c 2) m2 4 := by
  rw [list_at (putS_len (fillP c 2) m2 4)]
  apply List.map_congr_left
  intro q hq
  rw [List.mem_range] at hq
  rw [if_pos (cnt_all h q hq)]
theorem tL_torn (a c : Int) {m1 m2 : Int} (hm1 : U64 m1) (hm2 : U64 m2) (hne : m1 ≠ m2) {kp : List Bool} (h0 : cntK kp 4 ≠ 0) (h4 : cntK kp 4 ≠ 4) : getB (tL a m1 c m2 kp) = false := by
  obtain ⟨⟨q, hq, kq⟩, r, hr, kr⟩ := cnt_some h0 h4
  unfold getB
  apply decide_eq_false
  rintro ⟨_, hall⟩
  have hmem : ∀ z, z < 4 → (if keptB 0 kp z = true then at' (putS (fillP c 2) m2 4) (z : Int) else at' (putS (fillP a 1) m1 4) (z : Int)) ∈ tL a m1 c m2 kp := fun z hz => List.mem_map.2 ⟨z, List.mem_range.2 hz, rfl⟩
  have e1 := hall _ (hmem q hq)
  have e2 := hall _ (hmem r hr)
  rw [if_pos kq, mark_put (fillP_len c 2) hm2 hq] at e1
  rw [if_neg (by rw [kr]; simp), mark_put (fillP_len a 1) hm1 hr] at e2
  exact hne (e2.trans e1.symm)
theorem tL_zero (a c : Int) {m1 m2 : Int} (hm1 : U64 m1) (hm2 : U64 m2) (hne : m1 ≠ m2) {kp : List Bool} (h0 : cntK kp 4 ≠ 0) (h4 : cntK kp 4 ≠ 4) : getP (tL a m1 c m2 kp) = zP ∧ getN (tL a m1 c m2 kp) = 0 := by
  rw [getP, getN, tL_torn a c hm1 hm2 hne h0 h4, if_neg (by simp), if_neg (by simp)]; exact ⟨rfl, rfl⟩
set_option maxRecDepth 100000 in
set_option maxHeartbeats 4000000 in
theorem tears_A (b i a c m1 m2 : Int) (kp : List Bool) (hm1 : U64 m1) (hm2 : U64 m2) (hlen : (kp.length : Int) ≤ 9223372036854775807) (hbad : b < 0 ∨ 8 < b ∨ i < 0 ∨ 3 < i ∨ m1 = m2 ∨ 30 < kp.length) : Does Try.prog 5 [.sc (.int .i64 b), .sc (.int .i64 i), .sc (.int .u8 a), .sc (.int .u8 c), .sc (.int .u64 m1), .sc (.int .u64 m2), .sl 1 (boolsV kp)] [] [] (.sc (.bool true)) := by
  refine does_mkg 40 Try.func5 rfl rfl rfl (fun n B bx hd hpre hup hvs hbx hgx => ?_)
  refine runs_seq ?_
  refine runs_region ?_
  refine rl0 (gn rfl) rfl rfl (step_as rfl rfl) trivial ?_
  refine runsL_nil ?_
  refine runs_seq ?_
  refine runs_seq ?_
  refine runs_region ?_
  refine rl0 (gn rfl) rfl rfl (step_mv rfl rfl) trivial ?_
  refine rl_lss (gn rfl) rfl rfl rfl rfl rfl (fun h1 => ?_) (fun h1 => ?_)
  · skip
    refine rl0 (gn rfl) rfl rfl (step_mv rfl rfl) trivial ?_
    refine rlk rfl rfl rfl rfl rfl (ngb rfl rfl) rfl rfl ?_
    refine rlk rfl rfl rfl rfl rfl (ngb rfl rfl) rfl rfl ?_
    refine rl0 (gn rfl) rfl rfl (step_pick rfl (ev_mk rfl) (ev_mk rfl)) trivial ?_
    refine rl0 (gn rfl) rfl rfl (step_mv rfl rfl) trivial ?_
    refine rlk rfl rfl rfl rfl rfl (ngb rfl rfl) rfl rfl ?_
    refine rlk rfl rfl rfl rfl rfl (ngb rfl rfl) rfl rfl ?_
    refine rl0 (gn rfl) rfl rfl (step_pick rfl (ev_mk rfl) (ev_mk rfl)) trivial ?_
    refine rl0 (gn rfl) rfl rfl (step_mv rfl rfl) trivial ?_
    refine rlk rfl rfl rfl rfl rfl (ngb rfl rfl) rfl rfl ?_
    refine rlk rfl rfl rfl rfl rfl (ngb rfl rfl) rfl rfl ?_
    refine rl0 (gn rfl) rfl rfl (step_pick rfl (ev_mk rfl) (ev_mk rfl)) trivial ?_
    refine rl0 (gn rfl) rfl rfl (step_mv rfl rfl) trivial ?_
    refine rlk rfl rfl rfl rfl rfl (ngb rfl rfl) rfl rfl ?_
    refine rlk rfl rfl rfl rfl rfl (ngb rfl rfl) rfl rfl ?_
    refine rlk rfl rfl rfl rfl rfl (ngb rfl rfl) rfl rfl ?_
    refine rl0 (gn rfl) rfl rfl (step_pick rfl (ev_mk rfl) (ev_mk rfl)) trivial ?_
    refine rl0 (gn rfl) rfl rfl (step_mv rfl rfl) trivial ?_
    refine rlk rfl rfl rfl rfl rfl (ngb rfl rfl) rfl rfl ?_
    refine rlk rfl rfl rfl rfl rfl (ngb rfl rfl) rfl rfl ?_
    refine rlk rfl rfl rfl rfl rfl (ngb rfl rfl) rfl rfl ?_
    refine rl0 (gn rfl) rfl rfl (step_pick rfl (ev_mk rfl) (ev_mk rfl)) trivial ?_
    refine runsL_nil ?_
    refine runs_cond true (ev_mk rfl) (fun _ => ?_) (fun h_ => nomatch h_)
    refine runs_seq ?_
    refine runs_region ?_
    refine rl0 (gn rfl) rfl rfl (step_callc rfl Try.func6 rfl rfl rfl (works_c) (by repeat (first | exact .nil | refine .cons ?_ ?_ | exact VLe.refl _ | exact VLe.own_sl _ _ _ | exact VLe.fl_sl _ _ | exact VLe.nil_sl _ | exact VLe.nil_fl _ | refine VLe.agg ?_))) trivial ?_
    refine rl0 (gn rfl) rfl rfl (step_as rfl rfl) trivial ?_
    refine runsL_nil ?_
    refine runs_ret ?_
    refine ⟨by first | exact .inr rfl | exact .inl rfl, fin_mkg (rest rfl res0) ?_ ?_ ?_ ?_ ?_⟩
    · (repeat' (first | exact VLe.refl _ | exact VLe.own_sl _ _ _ | exact VLe.fl_sl _ _ | exact VLe.nil_sl _ | exact VLe.nil_fl _ | exact VLes.refl _ | exact .nil | refine VLe.tup ?_ | refine VLe.agg ?_ | refine .cons ?_ ?_ | (rw [Int.natCast_add]; exact VLe.refl _) | exact vle_int (by omega) | exact vle_bool (by first | rfl | assumption | (simp_all; done)) | fail))
    · repeat (first | exact trivial | assumption | omega | exact bd_bs | exact bd_row | exact bd_secs | exact bd_bools | (refine bdR_map (fun _ => ?_)) | (refine bdL_map (fun _ => ?_)) | refine ⟨?_, ?_⟩ | fail)
    · intro k_ hk_; exact ble (by first | exact rfl | (refine (upd_ne _ _ _ _ (by omega)).trans ?_; first | exact rfl | skip; repeat (first | exact rfl | refine (upd_ne _ _ _ _ (by omega)).trans ?_ | assumption | exact hf0 _ (by omega) | exact hf1 _ (by omega) | exact hf2 _ (by omega) | exact hf3 _ (by omega) | exact hf0 _ (by omega) (by first | assumption | omega) | exact hf1 _ (by omega) (by first | assumption | omega) | exact hf2 _ (by omega) (by first | assumption | omega) | exact hf3 _ (by omega) (by first | assumption | omega) | exact hf0 _ (by omega) (by first | assumption | omega) (by first | assumption | omega) | exact hf1 _ (by omega) (by first | assumption | omega) (by first | assumption | omega) | exact hf2 _ (by omega) (by first | assumption | omega) (by first | assumption | omega) | exact hf3 _ (by omega) (by first | assumption | omega) (by first | assumption | omega))) | exact hf0 _ (by omega) | exact hf1 _ (by omega) | exact hf2 _ (by omega) | exact hf3 _ (by omega) | exact hf0 _ (by omega) (by first | assumption | omega) | exact hf1 _ (by omega) (by first | assumption | omega) | exact hf2 _ (by omega) (by first | assumption | omega) | exact hf3 _ (by omega) (by first | assumption | omega) | exact hf0 _ (by omega) (by first | assumption | omega) (by first | assumption | omega) | exact hf1 _ (by omega) (by first | assumption | omega) (by first | assumption | omega) | exact hf2 _ (by omega) (by first | assumption | omega) (by first | assumption | omega) | exact hf3 _ (by omega) (by first | assumption | omega) (by first | assumption | omega))
    · intro p hp; cases hp
    · repeat (first | exact trivial | assumption | omega | exact bd_bs | exact bd_row | exact bd_secs | exact bd_bools | (refine bdR_map (fun _ => ?_)) | (refine bdL_map (fun _ => ?_)) | refine ⟨?_, ?_⟩ | fail)
  · skip
    refine rl0 (gn rfl) rfl rfl (step_mv rfl rfl) trivial ?_
    refine rl0 (gy rfl rfl rfl rfl rfl rfl) rfl rfl (step_mv rfl rfl) trivial ?_
    refine rl_gtr (gy rfl rfl rfl rfl rfl rfl) rfl rfl rfl rfl rfl (fun h2 => ?_) (fun h2 => ?_)
    · skip
      refine rl0 (gn rfl) rfl rfl (step_pick rfl (ev_mk rfl) (ev_mk rfl)) trivial ?_
      refine rl0 (gn rfl) rfl rfl (step_mv rfl rfl) trivial ?_
      refine rlk rfl rfl rfl rfl rfl (ngb rfl rfl) rfl rfl ?_
      refine rlk rfl rfl rfl rfl rfl (ngb rfl rfl) rfl rfl ?_
      refine rl0 (gn rfl) rfl rfl (step_pick rfl (ev_mk rfl) (ev_mk rfl)) trivial ?_
      refine rl0 (gn rfl) rfl rfl (step_mv rfl rfl) trivial ?_
      refine rlk rfl rfl rfl rfl rfl (ngb rfl rfl) rfl rfl ?_
      refine rlk rfl rfl rfl rfl rfl (ngb rfl rfl) rfl rfl ?_
      refine rl0 (gn rfl) rfl rfl (step_pick rfl (ev_mk rfl) (ev_mk rfl)) trivial ?_
      refine rl0 (gn rfl) rfl rfl (step_mv rfl rfl) trivial ?_
      refine rlk rfl rfl rfl rfl rfl (ngb rfl rfl) rfl rfl ?_
      refine rlk rfl rfl rfl rfl rfl (ngb rfl rfl) rfl rfl ?_
      refine rlk rfl rfl rfl rfl rfl (ngb rfl rfl) rfl rfl ?_
      refine rl0 (gn rfl) rfl rfl (step_pick rfl (ev_mk rfl) (ev_mk rfl)) trivial ?_
      refine rl0 (gn rfl) rfl rfl (step_mv rfl rfl) trivial ?_
      refine rlk rfl rfl rfl rfl rfl (ngb rfl rfl) rfl rfl ?_
      refine rlk rfl rfl rfl rfl rfl (ngb rfl rfl) rfl rfl ?_
      refine rlk rfl rfl rfl rfl rfl (ngb rfl rfl) rfl rfl ?_
      refine rl0 (gn rfl) rfl rfl (step_pick rfl (ev_mk rfl) (ev_mk rfl)) trivial ?_
      refine runsL_nil ?_
      refine runs_cond true (ev_mk rfl) (fun _ => ?_) (fun h_ => nomatch h_)
      refine runs_seq ?_
      refine runs_region ?_
      refine rl0 (gn rfl) rfl rfl (step_callc rfl Try.func6 rfl rfl rfl (works_c) (by repeat (first | exact .nil | refine .cons ?_ ?_ | exact VLe.refl _ | exact VLe.own_sl _ _ _ | exact VLe.fl_sl _ _ | exact VLe.nil_sl _ | exact VLe.nil_fl _ | refine VLe.agg ?_))) trivial ?_
      refine rl0 (gn rfl) rfl rfl (step_as rfl rfl) trivial ?_
      refine runsL_nil ?_
      refine runs_ret ?_
      refine ⟨by first | exact .inr rfl | exact .inl rfl, fin_mkg (rest rfl res0) ?_ ?_ ?_ ?_ ?_⟩
      · (repeat' (first | exact VLe.refl _ | exact VLe.own_sl _ _ _ | exact VLe.fl_sl _ _ | exact VLe.nil_sl _ | exact VLe.nil_fl _ | exact VLes.refl _ | exact .nil | refine VLe.tup ?_ | refine VLe.agg ?_ | refine .cons ?_ ?_ | (rw [Int.natCast_add]; exact VLe.refl _) | exact vle_int (by omega) | exact vle_bool (by first | rfl | assumption | (simp_all; done)) | fail))
      · repeat (first | exact trivial | assumption | omega | exact bd_bs | exact bd_row | exact bd_secs | exact bd_bools | (refine bdR_map (fun _ => ?_)) | (refine bdL_map (fun _ => ?_)) | refine ⟨?_, ?_⟩ | fail)
      · intro k_ hk_; exact ble (by first | exact rfl | (refine (upd_ne _ _ _ _ (by omega)).trans ?_; first | exact rfl | skip; repeat (first | exact rfl | refine (upd_ne _ _ _ _ (by omega)).trans ?_ | assumption | exact hf0 _ (by omega) | exact hf1 _ (by omega) | exact hf2 _ (by omega) | exact hf3 _ (by omega) | exact hf0 _ (by omega) (by first | assumption | omega) | exact hf1 _ (by omega) (by first | assumption | omega) | exact hf2 _ (by omega) (by first | assumption | omega) | exact hf3 _ (by omega) (by first | assumption | omega) | exact hf0 _ (by omega) (by first | assumption | omega) (by first | assumption | omega) | exact hf1 _ (by omega) (by first | assumption | omega) (by first | assumption | omega) | exact hf2 _ (by omega) (by first | assumption | omega) (by first | assumption | omega) | exact hf3 _ (by omega) (by first | assumption | omega) (by first | assumption | omega))) | exact hf0 _ (by omega) | exact hf1 _ (by omega) | exact hf2 _ (by omega) | exact hf3 _ (by omega) | exact hf0 _ (by omega) (by first | assumption | omega) | exact hf1 _ (by omega) (by first | assumption | omega) | exact hf2 _ (by omega) (by first | assumption | omega) | exact hf3 _ (by omega) (by first | assumption | omega) | exact hf0 _ (by omega) (by first | assumption | omega) (by first | assumption | omega) | exact hf1 _ (by omega) (by first | assumption | omega) (by first | assumption | omega) | exact hf2 _ (by omega) (by first | assumption | omega) (by first | assumption | omega) | exact hf3 _ (by omega) (by first | assumption | omega) (by first | assumption | omega))
      · intro p hp; cases hp
      · repeat (first | exact trivial | assumption | omega | exact bd_bs | exact bd_row | exact bd_secs | exact bd_bools | (refine bdR_map (fun _ => ?_)) | (refine bdL_map (fun _ => ?_)) | refine ⟨?_, ?_⟩ | fail)
    · skip
      refine rl0 (gn rfl) rfl rfl (step_pick rfl (ev_mk rfl) (ev_mk rfl)) trivial ?_
      refine rl0 (gn rfl) rfl rfl (step_mv rfl rfl) trivial ?_
      refine rl0 (gy rfl rfl rfl rfl rfl rfl) rfl rfl (step_mv rfl rfl) trivial ?_
      refine rl_lss (gy rfl rfl rfl rfl rfl rfl) rfl rfl rfl rfl rfl (fun h3 => ?_) (fun h3 => ?_)
      · skip
        refine rl0 (gn rfl) rfl rfl (step_pick rfl (ev_mk rfl) (ev_mk rfl)) trivial ?_
        refine rl0 (gn rfl) rfl rfl (step_mv rfl rfl) trivial ?_
        refine rlk rfl rfl rfl rfl rfl (ngb rfl rfl) rfl rfl ?_
        refine rlk rfl rfl rfl rfl rfl (ngb rfl rfl) rfl rfl ?_
        refine rl0 (gn rfl) rfl rfl (step_pick rfl (ev_mk rfl) (ev_mk rfl)) trivial ?_
        refine rl0 (gn rfl) rfl rfl (step_mv rfl rfl) trivial ?_
        refine rlk rfl rfl rfl rfl rfl (ngb rfl rfl) rfl rfl ?_
        refine rlk rfl rfl rfl rfl rfl (ngb rfl rfl) rfl rfl ?_
        refine rlk rfl rfl rfl rfl rfl (ngb rfl rfl) rfl rfl ?_
        refine rl0 (gn rfl) rfl rfl (step_pick rfl (ev_mk rfl) (ev_mk rfl)) trivial ?_
        refine rl0 (gn rfl) rfl rfl (step_mv rfl rfl) trivial ?_
        refine rlk rfl rfl rfl rfl rfl (ngb rfl rfl) rfl rfl ?_
        refine rlk rfl rfl rfl rfl rfl (ngb rfl rfl) rfl rfl ?_
        refine rlk rfl rfl rfl rfl rfl (ngb rfl rfl) rfl rfl ?_
        refine rl0 (gn rfl) rfl rfl (step_pick rfl (ev_mk rfl) (ev_mk rfl)) trivial ?_
        refine runsL_nil ?_
        refine runs_cond true (ev_mk rfl) (fun _ => ?_) (fun h_ => nomatch h_)
        refine runs_seq ?_
        refine runs_region ?_
        refine rl0 (gn rfl) rfl rfl (step_callc rfl Try.func6 rfl rfl rfl (works_c) (by repeat (first | exact .nil | refine .cons ?_ ?_ | exact VLe.refl _ | exact VLe.own_sl _ _ _ | exact VLe.fl_sl _ _ | exact VLe.nil_sl _ | exact VLe.nil_fl _ | refine VLe.agg ?_))) trivial ?_
        refine rl0 (gn rfl) rfl rfl (step_as rfl rfl) trivial ?_
        refine runsL_nil ?_
        refine runs_ret ?_
        refine ⟨by first | exact .inr rfl | exact .inl rfl, fin_mkg (rest rfl res0) ?_ ?_ ?_ ?_ ?_⟩
        · (repeat' (first | exact VLe.refl _ | exact VLe.own_sl _ _ _ | exact VLe.fl_sl _ _ | exact VLe.nil_sl _ | exact VLe.nil_fl _ | exact VLes.refl _ | exact .nil | refine VLe.tup ?_ | refine VLe.agg ?_ | refine .cons ?_ ?_ | (rw [Int.natCast_add]; exact VLe.refl _) | exact vle_int (by omega) | exact vle_bool (by first | rfl | assumption | (simp_all; done)) | fail))
        · repeat (first | exact trivial | assumption | omega | exact bd_bs | exact bd_row | exact bd_secs | exact bd_bools | (refine bdR_map (fun _ => ?_)) | (refine bdL_map (fun _ => ?_)) | refine ⟨?_, ?_⟩ | fail)
        · intro k_ hk_; exact ble (by first | exact rfl | (refine (upd_ne _ _ _ _ (by omega)).trans ?_; first | exact rfl | skip; repeat (first | exact rfl | refine (upd_ne _ _ _ _ (by omega)).trans ?_ | assumption | exact hf0 _ (by omega) | exact hf1 _ (by omega) | exact hf2 _ (by omega) | exact hf3 _ (by omega) | exact hf0 _ (by omega) (by first | assumption | omega) | exact hf1 _ (by omega) (by first | assumption | omega) | exact hf2 _ (by omega) (by first | assumption | omega) | exact hf3 _ (by omega) (by first | assumption | omega) | exact hf0 _ (by omega) (by first | assumption | omega) (by first | assumption | omega) | exact hf1 _ (by omega) (by first | assumption | omega) (by first | assumption | omega) | exact hf2 _ (by omega) (by first | assumption | omega) (by first | assumption | omega) | exact hf3 _ (by omega) (by first | assumption | omega) (by first | assumption | omega))) | exact hf0 _ (by omega) | exact hf1 _ (by omega) | exact hf2 _ (by omega) | exact hf3 _ (by omega) | exact hf0 _ (by omega) (by first | assumption | omega) | exact hf1 _ (by omega) (by first | assumption | omega) | exact hf2 _ (by omega) (by first | assumption | omega) | exact hf3 _ (by omega) (by first | assumption | omega) | exact hf0 _ (by omega) (by first | assumption | omega) (by first | assumption | omega) | exact hf1 _ (by omega) (by first | assumption | omega) (by first | assumption | omega) | exact hf2 _ (by omega) (by first | assumption | omega) (by first | assumption | omega) | exact hf3 _ (by omega) (by first | assumption | omega) (by first | assumption | omega))
        · intro p hp; cases hp
        · repeat (first | exact trivial | assumption | omega | exact bd_bs | exact bd_row | exact bd_secs | exact bd_bools | (refine bdR_map (fun _ => ?_)) | (refine bdL_map (fun _ => ?_)) | refine ⟨?_, ?_⟩ | fail)
      · skip
        refine rl0 (gn rfl) rfl rfl (step_pick rfl (ev_mk rfl) (ev_mk rfl)) trivial ?_
        refine rl0 (gn rfl) rfl rfl (step_mv rfl rfl) trivial ?_
        refine rl0 (gy rfl rfl rfl rfl rfl rfl) rfl rfl (step_mv rfl rfl) trivial ?_
        refine rl_gtr (gy rfl rfl rfl rfl rfl rfl) rfl rfl rfl rfl rfl (fun h4 => ?_) (fun h4 => ?_)
        · skip
          refine rl0 (gn rfl) rfl rfl (step_pick rfl (ev_mk rfl) (ev_mk rfl)) trivial ?_
          refine rl0 (gn rfl) rfl rfl (step_mv rfl rfl) trivial ?_
          refine rlk rfl rfl rfl rfl rfl (ngb rfl rfl) rfl rfl ?_
          refine rlk rfl rfl rfl rfl rfl (ngb rfl rfl) rfl rfl ?_
          refine rlk rfl rfl rfl rfl rfl (ngb rfl rfl) rfl rfl ?_
          refine rl0 (gn rfl) rfl rfl (step_pick rfl (ev_mk rfl) (ev_mk rfl)) trivial ?_
          refine rl0 (gn rfl) rfl rfl (step_mv rfl rfl) trivial ?_
          refine rlk rfl rfl rfl rfl rfl (ngb rfl rfl) rfl rfl ?_
          refine rlk rfl rfl rfl rfl rfl (ngb rfl rfl) rfl rfl ?_
          refine rlk rfl rfl rfl rfl rfl (ngb rfl rfl) rfl rfl ?_
          refine rl0 (gn rfl) rfl rfl (step_pick rfl (ev_mk rfl) (ev_mk rfl)) trivial ?_
          refine runsL_nil ?_
          refine runs_cond true (ev_mk rfl) (fun _ => ?_) (fun h_ => nomatch h_)
          refine runs_seq ?_
          refine runs_region ?_
          refine rl0 (gn rfl) rfl rfl (step_callc rfl Try.func6 rfl rfl rfl (works_c) (by repeat (first | exact .nil | refine .cons ?_ ?_ | exact VLe.refl _ | exact VLe.own_sl _ _ _ | exact VLe.fl_sl _ _ | exact VLe.nil_sl _ | exact VLe.nil_fl _ | refine VLe.agg ?_))) trivial ?_
          refine rl0 (gn rfl) rfl rfl (step_as rfl rfl) trivial ?_
          refine runsL_nil ?_
          refine runs_ret ?_
          refine ⟨by first | exact .inr rfl | exact .inl rfl, fin_mkg (rest rfl res0) ?_ ?_ ?_ ?_ ?_⟩
          · (repeat' (first | exact VLe.refl _ | exact VLe.own_sl _ _ _ | exact VLe.fl_sl _ _ | exact VLe.nil_sl _ | exact VLe.nil_fl _ | exact VLes.refl _ | exact .nil | refine VLe.tup ?_ | refine VLe.agg ?_ | refine .cons ?_ ?_ | (rw [Int.natCast_add]; exact VLe.refl _) | exact vle_int (by omega) | exact vle_bool (by first | rfl | assumption | (simp_all; done)) | fail))
          · repeat (first | exact trivial | assumption | omega | exact bd_bs | exact bd_row | exact bd_secs | exact bd_bools | (refine bdR_map (fun _ => ?_)) | (refine bdL_map (fun _ => ?_)) | refine ⟨?_, ?_⟩ | fail)
          · intro k_ hk_; exact ble (by first | exact rfl | (refine (upd_ne _ _ _ _ (by omega)).trans ?_; first | exact rfl | skip; repeat (first | exact rfl | refine (upd_ne _ _ _ _ (by omega)).trans ?_ | assumption | exact hf0 _ (by omega) | exact hf1 _ (by omega) | exact hf2 _ (by omega) | exact hf3 _ (by omega) | exact hf0 _ (by omega) (by first | assumption | omega) | exact hf1 _ (by omega) (by first | assumption | omega) | exact hf2 _ (by omega) (by first | assumption | omega) | exact hf3 _ (by omega) (by first | assumption | omega) | exact hf0 _ (by omega) (by first | assumption | omega) (by first | assumption | omega) | exact hf1 _ (by omega) (by first | assumption | omega) (by first | assumption | omega) | exact hf2 _ (by omega) (by first | assumption | omega) (by first | assumption | omega) | exact hf3 _ (by omega) (by first | assumption | omega) (by first | assumption | omega))) | exact hf0 _ (by omega) | exact hf1 _ (by omega) | exact hf2 _ (by omega) | exact hf3 _ (by omega) | exact hf0 _ (by omega) (by first | assumption | omega) | exact hf1 _ (by omega) (by first | assumption | omega) | exact hf2 _ (by omega) (by first | assumption | omega) | exact hf3 _ (by omega) (by first | assumption | omega) | exact hf0 _ (by omega) (by first | assumption | omega) (by first | assumption | omega) | exact hf1 _ (by omega) (by first | assumption | omega) (by first | assumption | omega) | exact hf2 _ (by omega) (by first | assumption | omega) (by first | assumption | omega) | exact hf3 _ (by omega) (by first | assumption | omega) (by first | assumption | omega))
          · intro p hp; cases hp
          · repeat (first | exact trivial | assumption | omega | exact bd_bs | exact bd_row | exact bd_secs | exact bd_bools | (refine bdR_map (fun _ => ?_)) | (refine bdL_map (fun _ => ?_)) | refine ⟨?_, ?_⟩ | fail)
        · skip
          refine rl0 (gn rfl) rfl rfl (step_pick rfl (ev_mk rfl) (ev_mk rfl)) trivial ?_
          refine rl0 (gn rfl) rfl rfl (step_mv rfl rfl) trivial ?_
          refine rl0 (gy rfl rfl rfl rfl rfl rfl) rfl rfl (step_mv rfl rfl) trivial ?_
          refine rl0 (gy rfl rfl rfl rfl rfl rfl) rfl rfl (step_mv rfl rfl) trivial ?_
          refine rl_eql (gy rfl rfl rfl rfl rfl rfl) rfl rfl rfl rfl rfl (fun h5 => ?_) (fun h5 => ?_)
          · skip
            refine rl0 (gn rfl) rfl rfl (step_pick rfl (ev_mk rfl) (ev_mk rfl)) trivial ?_
            refine rl0 (gn rfl) rfl rfl (step_mv rfl rfl) trivial ?_
            refine rlk rfl rfl rfl rfl rfl (ngb rfl rfl) rfl rfl ?_
            refine rlk rfl rfl rfl rfl rfl (ngb rfl rfl) rfl rfl ?_
            refine rlk rfl rfl rfl rfl rfl (ngb rfl rfl) rfl rfl ?_
            refine rl0 (gn rfl) rfl rfl (step_pick rfl (ev_mk rfl) (ev_mk rfl)) trivial ?_
            refine runsL_nil ?_
            refine runs_cond true (ev_mk rfl) (fun _ => ?_) (fun h_ => nomatch h_)
            refine runs_seq ?_
            refine runs_region ?_
            refine rl0 (gn rfl) rfl rfl (step_callc rfl Try.func6 rfl rfl rfl (works_c) (by repeat (first | exact .nil | refine .cons ?_ ?_ | exact VLe.refl _ | exact VLe.own_sl _ _ _ | exact VLe.fl_sl _ _ | exact VLe.nil_sl _ | exact VLe.nil_fl _ | refine VLe.agg ?_))) trivial ?_
            refine rl0 (gn rfl) rfl rfl (step_as rfl rfl) trivial ?_
            refine runsL_nil ?_
            refine runs_ret ?_
            refine ⟨by first | exact .inr rfl | exact .inl rfl, fin_mkg (rest rfl res0) ?_ ?_ ?_ ?_ ?_⟩
            · (repeat' (first | exact VLe.refl _ | exact VLe.own_sl _ _ _ | exact VLe.fl_sl _ _ | exact VLe.nil_sl _ | exact VLe.nil_fl _ | exact VLes.refl _ | exact .nil | refine VLe.tup ?_ | refine VLe.agg ?_ | refine .cons ?_ ?_ | (rw [Int.natCast_add]; exact VLe.refl _) | exact vle_int (by omega) | exact vle_bool (by first | rfl | assumption | (simp_all; done)) | fail))
            · repeat (first | exact trivial | assumption | omega | exact bd_bs | exact bd_row | exact bd_secs | exact bd_bools | (refine bdR_map (fun _ => ?_)) | (refine bdL_map (fun _ => ?_)) | refine ⟨?_, ?_⟩ | fail)
            · intro k_ hk_; exact ble (by first | exact rfl | (refine (upd_ne _ _ _ _ (by omega)).trans ?_; first | exact rfl | skip; repeat (first | exact rfl | refine (upd_ne _ _ _ _ (by omega)).trans ?_ | assumption | exact hf0 _ (by omega) | exact hf1 _ (by omega) | exact hf2 _ (by omega) | exact hf3 _ (by omega) | exact hf0 _ (by omega) (by first | assumption | omega) | exact hf1 _ (by omega) (by first | assumption | omega) | exact hf2 _ (by omega) (by first | assumption | omega) | exact hf3 _ (by omega) (by first | assumption | omega) | exact hf0 _ (by omega) (by first | assumption | omega) (by first | assumption | omega) | exact hf1 _ (by omega) (by first | assumption | omega) (by first | assumption | omega) | exact hf2 _ (by omega) (by first | assumption | omega) (by first | assumption | omega) | exact hf3 _ (by omega) (by first | assumption | omega) (by first | assumption | omega))) | exact hf0 _ (by omega) | exact hf1 _ (by omega) | exact hf2 _ (by omega) | exact hf3 _ (by omega) | exact hf0 _ (by omega) (by first | assumption | omega) | exact hf1 _ (by omega) (by first | assumption | omega) | exact hf2 _ (by omega) (by first | assumption | omega) | exact hf3 _ (by omega) (by first | assumption | omega) | exact hf0 _ (by omega) (by first | assumption | omega) (by first | assumption | omega) | exact hf1 _ (by omega) (by first | assumption | omega) (by first | assumption | omega) | exact hf2 _ (by omega) (by first | assumption | omega) (by first | assumption | omega) | exact hf3 _ (by omega) (by first | assumption | omega) (by first | assumption | omega))
            · intro p hp; cases hp
            · repeat (first | exact trivial | assumption | omega | exact bd_bs | exact bd_row | exact bd_secs | exact bd_bools | (refine bdR_map (fun _ => ?_)) | (refine bdL_map (fun _ => ?_)) | refine ⟨?_, ?_⟩ | fail)
          · skip
            refine rl0 (gn rfl) rfl rfl (step_pick rfl (ev_mk rfl) (ev_mk rfl)) trivial ?_
            refine rl0 (gn rfl) rfl rfl (step_mv rfl rfl) trivial ?_
            refine rl0 (gy rfl rfl rfl rfl rfl rfl) rfl rfl (step_mv rfl rfl) trivial ?_
            refine rl0 (gy rfl rfl rfl rfl rfl rfl) rfl rfl (step_len (m := kp.length) rfl rfl (ev_mk rfl) (.inl ⟨⟨_, Try.underlying42⟩, .inl ⟨_, _, .inl rfl, by simp [boolsV]⟩⟩)) trivial ?_
            refine rl_gtr (gy rfl rfl rfl rfl rfl rfl) rfl rfl rfl rfl rfl (fun h6 => ?_) (fun h6 => ?_)
            · skip
              refine rl0 (gn rfl) rfl rfl (step_pick rfl (ev_mk rfl) (ev_mk rfl)) trivial ?_
              refine runsL_nil ?_
              refine runs_cond true (ev_mk rfl) (fun _ => ?_) (fun h_ => nomatch h_)
              refine runs_seq ?_
              refine runs_region ?_
              refine rl0 (gn rfl) rfl rfl (step_callc rfl Try.func6 rfl rfl rfl (works_c) (by repeat (first | exact .nil | refine .cons ?_ ?_ | exact VLe.refl _ | exact VLe.own_sl _ _ _ | exact VLe.fl_sl _ _ | exact VLe.nil_sl _ | exact VLe.nil_fl _ | refine VLe.agg ?_))) trivial ?_
              refine rl0 (gn rfl) rfl rfl (step_as rfl rfl) trivial ?_
              refine runsL_nil ?_
              refine runs_ret ?_
              refine ⟨by first | exact .inr rfl | exact .inl rfl, fin_mkg (rest rfl res0) ?_ ?_ ?_ ?_ ?_⟩
              · (repeat' (first | exact VLe.refl _ | exact VLe.own_sl _ _ _ | exact VLe.fl_sl _ _ | exact VLe.nil_sl _ | exact VLe.nil_fl _ | exact VLes.refl _ | exact .nil | refine VLe.tup ?_ | refine VLe.agg ?_ | refine .cons ?_ ?_ | (rw [Int.natCast_add]; exact VLe.refl _) | exact vle_int (by omega) | exact vle_bool (by first | rfl | assumption | (simp_all; done)) | fail))
              · repeat (first | exact trivial | assumption | omega | exact bd_bs | exact bd_row | exact bd_secs | exact bd_bools | (refine bdR_map (fun _ => ?_)) | (refine bdL_map (fun _ => ?_)) | refine ⟨?_, ?_⟩ | fail)
              · intro k_ hk_; exact ble (by first | exact rfl | (refine (upd_ne _ _ _ _ (by omega)).trans ?_; first | exact rfl | skip; repeat (first | exact rfl | refine (upd_ne _ _ _ _ (by omega)).trans ?_ | assumption | exact hf0 _ (by omega) | exact hf1 _ (by omega) | exact hf2 _ (by omega) | exact hf3 _ (by omega) | exact hf0 _ (by omega) (by first | assumption | omega) | exact hf1 _ (by omega) (by first | assumption | omega) | exact hf2 _ (by omega) (by first | assumption | omega) | exact hf3 _ (by omega) (by first | assumption | omega) | exact hf0 _ (by omega) (by first | assumption | omega) (by first | assumption | omega) | exact hf1 _ (by omega) (by first | assumption | omega) (by first | assumption | omega) | exact hf2 _ (by omega) (by first | assumption | omega) (by first | assumption | omega) | exact hf3 _ (by omega) (by first | assumption | omega) (by first | assumption | omega))) | exact hf0 _ (by omega) | exact hf1 _ (by omega) | exact hf2 _ (by omega) | exact hf3 _ (by omega) | exact hf0 _ (by omega) (by first | assumption | omega) | exact hf1 _ (by omega) (by first | assumption | omega) | exact hf2 _ (by omega) (by first | assumption | omega) | exact hf3 _ (by omega) (by first | assumption | omega) | exact hf0 _ (by omega) (by first | assumption | omega) (by first | assumption | omega) | exact hf1 _ (by omega) (by first | assumption | omega) (by first | assumption | omega) | exact hf2 _ (by omega) (by first | assumption | omega) (by first | assumption | omega) | exact hf3 _ (by omega) (by first | assumption | omega) (by first | assumption | omega))
              · intro p hp; cases hp
              · repeat (first | exact trivial | assumption | omega | exact bd_bs | exact bd_row | exact bd_secs | exact bd_bools | (refine bdR_map (fun _ => ?_)) | (refine bdL_map (fun _ => ?_)) | refine ⟨?_, ?_⟩ | fail)
            · skip
              refine rl0 (gn rfl) rfl rfl (step_pick rfl (ev_mk rfl) (ev_mk rfl)) trivial ?_
              refine runsL_nil ?_
              refine runs_cond false (ev_mk rfl) (fun h_ => nomatch h_) (fun _ => ?_)
              refine runs_skip ?_
              refine runs_seq ?_
              exfalso
              omega
set_option maxRecDepth 100000 in
set_option maxHeartbeats 4000000 in
theorem tears_0 (b i a c m1 m2 : Int) (kp : List Bool) (hm1 : U64 m1) (hm2 : U64 m2) (hlen : (kp.length : Int) ≤ 9223372036854775807) (ha : 0 ≤ a ∧ a < 256) (hc : 0 ≤ c ∧ c < 256) (hb0 : 0 ≤ b ∧ b ≤ 8) (hi0 : 0 ≤ i ∧ i ≤ 3) (hne : m1 ≠ m2) (hkl : kp.length ≤ 30) (hcnt : cntK kp 4 = 0) : Does Try.prog 5 [.sc (.int .i64 b), .sc (.int .i64 i), .sc (.int .u8 a), .sc (.int .u8 c), .sc (.int .u64 m1), .sc (.int .u64 m2), .sl 1 (boolsV kp)] [] [] (.sc (.bool true)) := by
  refine does_mkg 40 Try.func5 rfl rfl rfl (fun n B bx hd hpre hup hvs hbx hgx => ?_)
  have hyi : 0 ≤ (i + 1) % 4 ∧ (i + 1) % 4 ≤ 3 := by omega
  have hcl := cntK_le kp
  refine runs_seq ?_
  refine runs_region ?_
  refine rl0 (gn rfl) rfl rfl (step_as rfl rfl) trivial ?_
  refine runsL_nil ?_
  refine runs_seq ?_
  refine runs_seq ?_
  refine runs_region ?_
  refine rl0 (gn rfl) rfl rfl (step_mv rfl rfl) trivial ?_
  refine rl_lss (gn rfl) rfl rfl rfl rfl rfl (fun h1 => ?_) (fun h1 => ?_)
  · exact False.elim (by omega)
  refine rl0 (gn rfl) rfl rfl (step_mv rfl rfl) trivial ?_
  refine rl0 (gy rfl rfl rfl rfl rfl rfl) rfl rfl (step_mv rfl rfl) trivial ?_
  refine rl_gtr (gy rfl rfl rfl rfl rfl rfl) rfl rfl rfl rfl rfl (fun h2 => ?_) (fun h2 => ?_)
  · exact False.elim (by omega)
  refine rl0 (gn rfl) rfl rfl (step_pick rfl (ev_mk rfl) (ev_mk rfl)) trivial ?_
  refine rl0 (gn rfl) rfl rfl (step_mv rfl rfl) trivial ?_
  refine rl0 (gy rfl rfl rfl rfl rfl rfl) rfl rfl (step_mv rfl rfl) trivial ?_
  refine rl_lss (gy rfl rfl rfl rfl rfl rfl) rfl rfl rfl rfl rfl (fun h3 => ?_) (fun h3 => ?_)
  · exact False.elim (by omega)
  refine rl0 (gn rfl) rfl rfl (step_pick rfl (ev_mk rfl) (ev_mk rfl)) trivial ?_
  refine rl0 (gn rfl) rfl rfl (step_mv rfl rfl) trivial ?_
  refine rl0 (gy rfl rfl rfl rfl rfl rfl) rfl rfl (step_mv rfl rfl) trivial ?_
  refine rl_gtr (gy rfl rfl rfl rfl rfl rfl) rfl rfl rfl rfl rfl (fun h4 => ?_) (fun h4 => ?_)
  · exact False.elim (by omega)
  refine rl0 (gn rfl) rfl rfl (step_pick rfl (ev_mk rfl) (ev_mk rfl)) trivial ?_
  refine rl0 (gn rfl) rfl rfl (step_mv rfl rfl) trivial ?_
  refine rl0 (gy rfl rfl rfl rfl rfl rfl) rfl rfl (step_mv rfl rfl) trivial ?_
  refine rl0 (gy rfl rfl rfl rfl rfl rfl) rfl rfl (step_mv rfl rfl) trivial ?_
  refine rl_eql (gy rfl rfl rfl rfl rfl rfl) rfl rfl rfl rfl rfl (fun h5 => ?_) (fun h5 => ?_)
  · exact False.elim (by exact hne h5)
  refine rl0 (gn rfl) rfl rfl (step_pick rfl (ev_mk rfl) (ev_mk rfl)) trivial ?_
  refine rl0 (gn rfl) rfl rfl (step_mv rfl rfl) trivial ?_
  refine rl0 (gy rfl rfl rfl rfl rfl rfl) rfl rfl (step_mv rfl rfl) trivial ?_
  refine rl0 (gy rfl rfl rfl rfl rfl rfl) rfl rfl (step_len (m := kp.length) rfl rfl (ev_mk rfl) (.inl ⟨⟨_, Try.underlying42⟩, .inl ⟨_, _, .inl rfl, by simp [boolsV]⟩⟩)) trivial ?_
  refine rl_gtr (gy rfl rfl rfl rfl rfl rfl) rfl rfl rfl rfl rfl (fun h6 => ?_) (fun h6 => ?_)
  · exact False.elim (by omega)
  refine rl0 (gn rfl) rfl rfl (step_pick rfl (ev_mk rfl) (ev_mk rfl)) trivial ?_
  refine runsL_nil ?_
  refine runs_cond false (ev_mk rfl) (fun h_ => nomatch h_) (fun _ => ?_)
  refine runs_skip ?_
  refine runs_seq ?_
  refine runs_region ?_
  refine rl2 (gn rfl) rfl rfl (step_callc rfl Try.func12 rfl rfl rfl (new_ok2 24 (by omega) (by omega) (n + 0) (n + 1) (by omega)) (by repeat (first | exact .nil | refine .cons ?_ ?_ | exact VLe.refl _ | exact VLe.own_sl _ _ _ | exact VLe.fl_sl _ _ | exact VLe.nil_sl _ | exact VLe.nil_fl _ | refine VLe.agg ?_))) ⟨by repeat (first | exact upd_eq _ _ _ | refine (upd_ne _ _ _ _ (by omega)).trans ?_ | assumption | exact hd _ (by omega) | exact hd0 _ (by omega) | exact hd1 _ (by omega) | exact hd2 _ (by omega) | exact hd3 _ (by omega) | fail), by repeat (first | exact upd_eq _ _ _ | refine (upd_ne _ _ _ _ (by omega)).trans ?_ | assumption | exact hd _ (by omega) | exact hd0 _ (by omega) | exact hd1 _ (by omega) | exact hd2 _ (by omega) | exact hd3 _ (by omega) | fail), trivial⟩ (by omega) (by omega) ?_
  refine rl0 (gn rfl) rfl rfl (step_mv rfl rfl) trivial ?_
  refine rl0 (gn rfl) rfl rfl (step_extract rfl (ev_mk rfl) rfl) trivial ?_
  refine rl0 (gn rfl) rfl rfl (step_extract rfl (ev_mk rfl) rfl) trivial ?_
  refine rl0 (gn rfl) rfl rfl (step_as rfl rfl) trivial ?_
  refine rl0 (gn rfl) rfl rfl (step_as rfl rfl) trivial ?_
  refine runsL_nil ?_
  refine runs_seq ?_
  refine runs_seq ?_
  refine runs_region ?_
  refine rl0 (gn rfl) rfl rfl (step_mv rfl rfl) trivial ?_
  refine rl0 (gn rfl) rfl rfl (step_eq_nil (b := false) rfl (ev_mk rfl) (ev_mk rfl) Try.underlying31 ⟨_, .inl ⟨.inl ⟨_, _, rfl⟩, rfl⟩, .inl ⟨rfl, rfl⟩⟩) trivial ?_
  refine rl0 (gn rfl) rfl rfl (step_mv rfl rfl) trivial ?_
  refine rl0 (gy rfl rfl rfl rfl rfl rfl) rfl rfl (step_mv rfl rfl) trivial ?_
  refine rl_neq (gy rfl rfl rfl rfl rfl rfl) rfl rfl rfl rfl rfl (fun h7 => ?_) (fun h7 => ?_)
  · exact False.elim (by omega)
  refine rl0 (gn rfl) rfl rfl (step_pick rfl (ev_mk rfl) (ev_mk rfl)) trivial ?_
  refine runsL_nil ?_
  refine runs_cond false (ev_mk rfl) (fun h_ => nomatch h_) (fun _ => ?_)
  refine runs_skip ?_
  refine runs_seq ?_
  refine runs_region ?_
  refine rl0 (gn rfl) rfl rfl (step_mv rfl rfl) trivial ?_
  refine rl0 (gn rfl) rfl rfl (step_add rfl (ev_mk rfl) (ev_mk rfl) (w64 (by omega))) trivial ?_
  refine rl0 (gn rfl) rfl rfl (step_rem rfl (ev_mk rfl) (ev_mk rfl) (by omega) (by omega)) trivial ?_
  refine rl0 (gn rfl) rfl rfl (step_as rfl rfl) trivial ?_
  refine runsL_nil ?_
  refine runs_seq ?_
  refine runs_seq ?_
  refine runs_region ?_
  refine rl0 (gn rfl) rfl rfl (step_mv rfl rfl) trivial ?_
  refine rl0 (gn rfl) rfl rfl (step_mv rfl rfl) trivial ?_
  refine rl0 (gn rfl) rfl rfl (step_mv rfl rfl) trivial ?_
  refine rl0 (gn rfl) rfl rfl (step_mv rfl rfl) trivial ?_
  refine rl0 (gn rfl) rfl rfl (step_callc rfl Try.func14 rfl rfl rfl (filled_c a 1) (by repeat (first | exact .nil | refine .cons ?_ ?_ | exact VLe.refl _ | exact VLe.own_sl _ _ _ | exact VLe.fl_sl _ _ | exact VLe.nil_sl _ | exact VLe.nil_fl _ | refine VLe.agg ?_))) trivial ?_
  refine rl0 (gn rfl) rfl rfl (step_mv rfl rfl) trivial ?_
  refine rl2 (gn rfl) rfl rfl (step_callc rfl Try.func13 rfl rfl rfl (tr_w (n + 0) (n + 1) (by omega) (zS 24) (zS_row 24) (zS_len 24) 0 (by omega) b i hb0 hi0 (fillP a 1) (fillP_len a 1) m1 hm1) (by repeat (first | exact .nil | refine .cons ?_ ?_ | exact VLe.refl _ | exact VLe.own_sl _ _ _ | exact VLe.fl_sl _ _ | exact VLe.nil_sl _ | exact VLe.nil_fl _ | refine VLe.agg ?_))) ⟨by repeat (first | exact upd_eq _ _ _ | refine (upd_ne _ _ _ _ (by omega)).trans ?_ | assumption | exact hd _ (by omega) | exact hd0 _ (by omega) | exact hd1 _ (by omega) | exact hd2 _ (by omega) | exact hd3 _ (by omega) | fail), by repeat (first | exact upd_eq _ _ _ | refine (upd_ne _ _ _ _ (by omega)).trans ?_ | assumption | exact hd _ (by omega) | exact hd0 _ (by omega) | exact hd1 _ (by omega) | exact hd2 _ (by omega) | exact hd3 _ (by omega) | fail), trivial⟩ (by omega) (by omega) ?_
  refine rl_neq (gn rfl) rfl rfl rfl rfl rfl (fun h8 => ?_) (fun h8 => ?_)
  · exact False.elim (by omega)
  refine rl0 (gn rfl) rfl rfl (step_mv rfl rfl) trivial ?_
  refine rl0 (gy rfl rfl rfl rfl rfl rfl) rfl rfl (step_mv rfl rfl) trivial ?_
  refine rl0 (gy rfl rfl rfl rfl rfl rfl) rfl rfl (step_mv rfl rfl) trivial ?_
  refine rl0 (gy rfl rfl rfl rfl rfl rfl) rfl rfl (step_mv rfl rfl) trivial ?_
  refine rl0 (gy rfl rfl rfl rfl rfl rfl) rfl rfl (step_callc rfl Try.func14 rfl rfl rfl (filled_c 9 9) (by repeat (first | exact .nil | refine .cons ?_ ?_ | exact VLe.refl _ | exact VLe.own_sl _ _ _ | exact VLe.fl_sl _ _ | exact VLe.nil_sl _ | exact VLe.nil_fl _ | refine VLe.agg ?_))) trivial ?_
  refine rl2 (gy rfl rfl rfl rfl rfl rfl) rfl rfl (step_callc rfl Try.func13 rfl rfl rfl (tr_w (n + 0) (n + 1) (by omega) (tS1 b i a m1) (tS_row b i a m1 c m2 kp).1 (tS_len b i a m1 c m2 kp).1 (0 + 1) (by omega) b ((i + 1) % 4) hb0 hyi (fillP 9 9) (fillP_len 9 9) 9 (u64_small (by omega))) (by repeat (first | exact .nil | refine .cons ?_ ?_ | exact VLe.refl _ | exact VLe.own_sl _ _ _ | exact VLe.fl_sl _ _ | exact VLe.nil_sl _ | exact VLe.nil_fl _ | refine VLe.agg ?_))) ⟨by repeat (first | exact upd_eq _ _ _ | refine (upd_ne _ _ _ _ (by omega)).trans ?_ | assumption | exact hd _ (by omega) | exact hd0 _ (by omega) | exact hd1 _ (by omega) | exact hd2 _ (by omega) | exact hd3 _ (by omega) | fail), by repeat (first | exact upd_eq _ _ _ | refine (upd_ne _ _ _ _ (by omega)).trans ?_ | assumption | exact hd _ (by omega) | exact hd0 _ (by omega) | exact hd1 _ (by omega) | exact hd2 _ (by omega) | exact hd3 _ (by omega) | fail), trivial⟩ (by omega) (by omega) ?_
  refine rl_neq (gy rfl rfl rfl rfl rfl rfl) rfl rfl rfl rfl rfl (fun h9 => ?_) (fun h9 => ?_)
  · exact False.elim (by omega)
  refine rl0 (gn rfl) rfl rfl (step_pick rfl (ev_mk rfl) (ev_mk rfl)) trivial ?_
  refine runsL_nil ?_
  refine runs_cond false (ev_mk rfl) (fun h_ => nomatch h_) (fun _ => ?_)
  refine runs_skip ?_
  refine runs_seq ?_
  refine runs_region ?_
  refine rl0 (gn rfl) rfl rfl (step_mv rfl rfl) trivial ?_
  refine rl0 (gn rfl) rfl rfl (step_mv rfl rfl) trivial ?_
  refine rl1 (gn rfl) rfl rfl (step_callc rfl Try.func16 rfl rfl rfl (fuse0_c (n + 0) (n + 1) (tS2 b i a m1) (0 + 1 + 1) (-1) [] false kp (by omega)) (by repeat (first | exact .nil | refine .cons ?_ ?_ | exact VLe.refl _ | exact VLe.own_sl _ _ _ | exact VLe.fl_sl _ _ | exact VLe.nil_sl _ | exact VLe.nil_fl _ | refine VLe.agg ?_))) ⟨by repeat (first | exact upd_eq _ _ _ | refine (upd_ne _ _ _ _ (by omega)).trans ?_ | assumption | exact hd _ (by omega) | exact hd0 _ (by omega) | exact hd1 _ (by omega) | exact hd2 _ (by omega) | exact hd3 _ (by omega) | fail), by repeat (first | exact upd_eq _ _ _ | refine (upd_ne _ _ _ _ (by omega)).trans ?_ | assumption | exact hd _ (by omega) | exact hd0 _ (by omega) | exact hd1 _ (by omega) | exact hd2 _ (by omega) | exact hd3 _ (by omega) | fail), trivial⟩ (by omega) ?_
  refine runsL_nil ?_
  refine runs_seq ?_
  refine runs_seq ?_
  refine runs_region ?_
  refine rl0 (gn rfl) rfl rfl (step_mv rfl rfl) trivial ?_
  refine rl0 (gn rfl) rfl rfl (step_mv rfl rfl) trivial ?_
  refine rl0 (gn rfl) rfl rfl (step_mv rfl rfl) trivial ?_
  refine rl0 (gn rfl) rfl rfl (step_mv rfl rfl) trivial ?_
  refine rl0 (gn rfl) rfl rfl (step_callc rfl Try.func14 rfl rfl rfl (filled_c c 2) (by repeat (first | exact .nil | refine .cons ?_ ?_ | exact VLe.refl _ | exact VLe.own_sl _ _ _ | exact VLe.fl_sl _ _ | exact VLe.nil_sl _ | exact VLe.nil_fl _ | refine VLe.agg ?_))) trivial ?_
  refine rl0 (gn rfl) rfl rfl (step_mv rfl rfl) trivial ?_
  refine rl2 (gn rfl) rfl rfl (step_callc rfl Try.func13 rfl rfl rfl (tr_t (n + 0) (n + 1) (by omega) (tS2 b i a m1) (tS_row b i a m1 c m2 kp).2.1 (tS_len b i a m1 c m2 kp).2.1 (0 + 1 + 1) (by omega) kp (by omega) b i hb0 hi0 (fillP c 2) (fillP_len c 2) m2 hm2) (by repeat (first | exact .nil | refine .cons ?_ ?_ | exact VLe.refl _ | exact VLe.own_sl _ _ _ | exact VLe.fl_sl _ _ | exact VLe.nil_sl _ | exact VLe.nil_fl _ | refine VLe.agg ?_))) ⟨by repeat (first | exact upd_eq _ _ _ | refine (upd_ne _ _ _ _ (by omega)).trans ?_ | assumption | exact hd _ (by omega) | exact hd0 _ (by omega) | exact hd1 _ (by omega) | exact hd2 _ (by omega) | exact hd3 _ (by omega) | fail), by repeat (first | exact upd_eq _ _ _ | refine (upd_ne _ _ _ _ (by omega)).trans ?_ | assumption | exact hd _ (by omega) | exact hd0 _ (by omega) | exact hd1 _ (by omega) | exact hd2 _ (by omega) | exact hd3 _ (by omega) | fail), trivial⟩ (by omega) (by omega) ?_
  refine rl_neq (gn rfl) rfl rfl rfl rfl rfl (fun h10 => ?_) (fun h10 => ?_)
  · exact False.elim (by omega)
  refine runsL_nil ?_
  refine runs_cond false (ev_mk rfl) (fun h_ => nomatch h_) (fun _ => ?_)
  refine runs_skip ?_
  refine runs_seq ?_
  refine runs_region ?_
  refine rl0 (gn rfl) rfl rfl (step_mv rfl rfl) trivial ?_
  refine rl1 (gn rfl) rfl rfl (step_callc rfl Try.func18 rfl rfl rfl (up_c (n + 0) (n + 1) (tS3 b i a m1 c m2 kp) (0 + 1 + 1) 0 kp true) (by repeat (first | exact .nil | refine .cons ?_ ?_ | exact VLe.refl _ | exact VLe.own_sl _ _ _ | exact VLe.fl_sl _ _ | exact VLe.nil_sl _ | exact VLe.nil_fl _ | refine VLe.agg ?_))) ⟨by repeat (first | exact upd_eq _ _ _ | refine (upd_ne _ _ _ _ (by omega)).trans ?_ | assumption | exact hd _ (by omega) | exact hd0 _ (by omega) | exact hd1 _ (by omega) | exact hd2 _ (by omega) | exact hd3 _ (by omega) | fail), by repeat (first | exact upd_eq _ _ _ | refine (upd_ne _ _ _ _ (by omega)).trans ?_ | assumption | exact hd _ (by omega) | exact hd0 _ (by omega) | exact hd1 _ (by omega) | exact hd2 _ (by omega) | exact hd3 _ (by omega) | fail), trivial⟩ (by omega) ?_
  refine runsL_nil ?_
  refine runs_seq ?_
  refine runs_region ?_
  refine rl0 (gn rfl) rfl rfl (step_as rfl rfl) trivial ?_
  refine runsL_nil ?_
  refine runs_seq ?_
  refine runs_seq ?_
  refine runs_region ?_
  refine rl0 (gn rfl) rfl rfl (step_as rfl rfl) trivial ?_
  refine runsL_nil ?_
  refine runs_block ?_
  have hs0_ : 0 = cntK kp 0 := by rfl
  refine runs_loop (fun (ri_ : Nat) (st_ : Go.Vm.S) => ∃ (j : Nat) (m0 : Nat) (b0 : Nat → Box), (st_ = ⟨mk [(0, .sc (.int .i64 b)), (1, .sc (.int .i64 i)), (2, .sc (.int .u8 a)), (3, .sc (.int .u8 c)), (4, .sc (.int .u64 m1)), (5, .sc (.int .u64 m2)), (6, .sl 1 (boolsV kp)), (14, .sc (.bool false)), (15, .ref (n + 0) 0), (17, .sc (.int .i64 ((i + 1) % 4))), (18, .sc (.int .i64 (cntK kp j))), (19, .sc (.int .i64 j))], m0, b0⟩) ∧ (ri_ = 4 - j) ∧ (n + 2 ≤ m0) ∧ (∀ k_, k_ < n → b0 k_ = bx k_) ∧ (b0 (n + 1) = .cells ((tS3 b i a m1 c m2 kp).flatten.map bV)) ∧ (b0 (n + 0) = .cells [.msl (n + 1) 0 ((tS3 b i a m1 c m2 kp)).length ((tS3 b i a m1 c m2 kp)).length 64, .sc (.int .i64 (0 + 1 + 1)), .sc (.int .i64 (-1)), .sl 1 (boolsV ([])), .sc (.bool false)]) ∧ (j ≤ 4)) (4 - 0) ⟨_, sle ?_ (Nat.le_refl _), 0, _, _, rfl, rfl, ?_⟩ ?_
  · (repeat' (first | exact trivial | refine ⟨⟨_, rfl, ?_⟩, ?_⟩ | fail)); all_goals (repeat' (first | exact VLe.refl _ | exact VLe.own_sl _ _ _ | exact VLe.fl_sl _ _ | exact VLe.nil_sl _ | exact VLe.nil_fl _ | exact VLes.refl _ | exact .nil | refine VLe.tup ?_ | refine VLe.agg ?_ | refine .cons ?_ ?_ | (rw [Int.natCast_add]; exact VLe.refl _) | exact vle_int (by omega) | exact vle_bool (by first | rfl | assumption | (simp_all; done)) | (rw [← hs0_]; exact VLe.refl _) | (rw [hs0_]; exact VLe.refl _) | fail))
  · exact ⟨by omega, (fun k_ hk_ => by first | exact rfl | (refine (upd_ne _ _ _ _ (by omega)).trans ?_; first | exact rfl | skip; repeat (first | exact rfl | refine (upd_ne _ _ _ _ (by omega)).trans ?_ | assumption | exact hf0 _ (by omega) | exact hf1 _ (by omega) | exact hf2 _ (by omega) | exact hf3 _ (by omega) | exact hf0 _ (by omega) (by first | assumption | omega) | exact hf1 _ (by omega) (by first | assumption | omega) | exact hf2 _ (by omega) (by first | assumption | omega) | exact hf3 _ (by omega) (by first | assumption | omega) | exact hf0 _ (by omega) (by first | assumption | omega) (by first | assumption | omega) | exact hf1 _ (by omega) (by first | assumption | omega) (by first | assumption | omega) | exact hf2 _ (by omega) (by first | assumption | omega) (by first | assumption | omega) | exact hf3 _ (by omega) (by first | assumption | omega) (by first | assumption | omega))) | exact hf0 _ (by omega) | exact hf1 _ (by omega) | exact hf2 _ (by omega) | exact hf3 _ (by omega) | exact hf0 _ (by omega) (by first | assumption | omega) | exact hf1 _ (by omega) (by first | assumption | omega) | exact hf2 _ (by omega) (by first | assumption | omega) | exact hf3 _ (by omega) (by first | assumption | omega) | exact hf0 _ (by omega) (by first | assumption | omega) (by first | assumption | omega) | exact hf1 _ (by omega) (by first | assumption | omega) (by first | assumption | omega) | exact hf2 _ (by omega) (by first | assumption | omega) (by first | assumption | omega) | exact hf3 _ (by omega) (by first | assumption | omega) (by first | assumption | omega)), by first | ((repeat (first | exact upd_eq _ _ _ | assumption | refine (upd_ne _ _ _ _ (by omega)).trans ?_ | fail)); done) | exact tl_eq (by repeat (first | exact upd_eq _ _ _ | assumption | refine (upd_ne _ _ _ _ (by omega)).trans ?_ | fail)) (by first | rfl | (simp [bytesV, beB_len]; done) | (simp [bytesV, beB_len]; omega) | omega) | (rw [← hs0_]; (repeat (first | exact upd_eq _ _ _ | assumption | refine (upd_ne _ _ _ _ (by omega)).trans ?_ | fail)); done), by first | ((repeat (first | exact upd_eq _ _ _ | assumption | refine (upd_ne _ _ _ _ (by omega)).trans ?_ | fail)); done) | exact tl_eq (by repeat (first | exact upd_eq _ _ _ | assumption | refine (upd_ne _ _ _ _ (by omega)).trans ?_ | fail)) (by first | rfl | (simp [bytesV, beB_len]; done) | (simp [bytesV, beB_len]; omega) | omega) | (rw [← hs0_]; (repeat (first | exact upd_eq _ _ _ | assumption | refine (upd_ne _ _ _ _ (by omega)).trans ?_ | fail)); done), by omega⟩
  · rintro _ _ ⟨j, m0, b0, rfl, rfl, hm0, hf0, hB0_0, hB0_1, hF0_0⟩
    refine runs_know (fun hd0 => ?_)
    refine runs_bump 20 ?_
    simp only at hd0
    have hj_ := cntK_le kp j
    refine runs_seq ?_
    refine runs_seq ?_
    refine runs_region ?_
    refine rl0 (gn rfl) rfl rfl (step_mv rfl rfl) trivial ?_
    refine rl_lss (gn rfl) rfl rfl rfl rfl rfl (fun h11 => ?_) (fun h11 => ?_)
    · skip
      refine runsL_nil ?_
      refine runs_cond true (ev_mk rfl) (fun _ => ?_) (fun h_ => nomatch h_)
      refine runs_skip ?_
      refine runs_seq ?_
      refine runs_block ?_
      refine runs_seq ?_
      refine runs_region ?_
      refine rl0 (gn rfl) rfl rfl (step_mv rfl rfl) trivial ?_
      refine rl0 (gn rfl) rfl rfl (step_mv rfl rfl) trivial ?_
      refine rl0 (gn rfl) rfl rfl (step_len (m := kp.length) rfl rfl (ev_mk rfl) (.inl ⟨⟨_, Try.underlying42⟩, .inl ⟨_, _, .inl rfl, by simp [boolsV]⟩⟩)) trivial ?_
      refine rl_lss (gn rfl) rfl rfl rfl rfl rfl (fun h12 => ?_) (fun h12 => ?_)
      · skip
        refine rl0 (gn rfl) rfl rfl (step_mv rfl rfl) trivial ?_
        refine rl0 (gy rfl rfl rfl rfl rfl rfl) rfl rfl (step_mv rfl rfl) trivial ?_
        refine rl0 (gy rfl rfl rfl rfl rfl rfl) rfl rfl (step_mv rfl rfl) trivial ?_
        refine' rl0 (gy rfl rfl rfl rfl rfl rfl) rfl rfl (step_index rfl (ev_mk rfl) (.inl rfl) (ev_mk rfl) Try.underlying42 F.sz4 (by omega) ?hr) trivial ?_
        case hr => exact map_at _ _ _ (by omega) (by omega)
        refine rl0 (gy rfl rfl rfl rfl rfl rfl) rfl rfl (step_load_ro rfl (ev_mk rfl) F.one4 rfl) trivial ?_
        refine rl0 (gn rfl) rfl rfl (step_pick rfl (ev_mk rfl) (ev_mk rfl)) trivial ?_
        refine runsL_nil ?_
        refine runs_cond _ (ev_mk rfl) (fun h13 => ?_) (fun h13 => ?_)
        · skip
          refine runs_region ?_
          refine rl0 (gn rfl) rfl rfl (step_mv rfl rfl) trivial ?_
          refine rl0 (gn rfl) rfl rfl (step_add rfl (ev_mk rfl) (ev_mk rfl) (w64 (by omega))) trivial ?_
          refine rl0 (gn rfl) rfl rfl (step_as rfl rfl) trivial ?_
          refine runsL_nil ?_
          refine runs_region ?_
          refine rl0 (gn rfl) rfl rfl (step_mv rfl rfl) trivial ?_
          refine rl0 (gn rfl) rfl rfl (step_add rfl (ev_mk rfl) (ev_mk rfl) (w64 (by omega))) trivial ?_
          refine rl0 (gn rfl) rfl rfl (step_as rfl rfl) trivial ?_
          refine runsL_nil ?_
          have hq0_ : (cntK kp j) + 1 = cntK kp (j + 1) := by (simp only [cntK]; first | (rw [kept_g rfl (by omega), if_pos (by assumption)]; done) | (rw [kept_g rfl (by omega), if_neg (Bool.eq_false_iff.1 (by assumption))]; omega) | (rw [kept_f rfl (by omega), if_neg (by simp)]; omega))
          refine ⟨_, _, ?_, sle ?_ (Nat.le_refl _), (j + 1), _, _, rfl, rfl, by omega, (fun k_ hk_ => by repeat (first | exact hf0 k_ hk_ | exact hf1 k_ hk_ | exact hf2 k_ hk_ | exact hf3 k_ hk_ | refine (upd_ne _ _ _ _ (by first | assumption | omega)).trans ?_ | fail)), by first | ((repeat (first | exact upd_eq _ _ _ | assumption | refine (upd_ne _ _ _ _ (by omega)).trans ?_ | fail)); done) | exact tl_eq (by repeat (first | exact upd_eq _ _ _ | assumption | refine (upd_ne _ _ _ _ (by omega)).trans ?_ | fail)) (by first | rfl | (simp [bytesV, beB_len]; done) | (simp [bytesV, beB_len]; omega) | omega) | (rw [← hq0_]; (repeat (first | exact upd_eq _ _ _ | assumption | refine (upd_ne _ _ _ _ (by omega)).trans ?_ | fail)); done), by first | ((repeat (first | exact upd_eq _ _ _ | assumption | refine (upd_ne _ _ _ _ (by omega)).trans ?_ | fail)); done) | exact tl_eq (by repeat (first | exact upd_eq _ _ _ | assumption | refine (upd_ne _ _ _ _ (by omega)).trans ?_ | fail)) (by first | rfl | (simp [bytesV, beB_len]; done) | (simp [bytesV, beB_len]; omega) | omega) | (rw [← hq0_]; (repeat (first | exact upd_eq _ _ _ | assumption | refine (upd_ne _ _ _ _ (by omega)).trans ?_ | fail)); done), by omega⟩
          · omega
          · (repeat' (first | exact trivial | refine ⟨⟨_, rfl, ?_⟩, ?_⟩ | fail)); all_goals (repeat' (first | exact VLe.refl _ | exact VLe.own_sl _ _ _ | exact VLe.fl_sl _ _ | exact VLe.nil_sl _ | exact VLe.nil_fl _ | exact VLes.refl _ | exact .nil | refine VLe.tup ?_ | refine VLe.agg ?_ | refine .cons ?_ ?_ | (rw [Int.natCast_add]; exact VLe.refl _) | exact vle_int (by omega) | exact vle_bool (by first | rfl | assumption | (simp_all; done)) | (rw [← hq0_]; exact VLe.refl _) | (rw [hq0_]; exact VLe.refl _) | fail))
        · skip
          refine runs_skip ?_
          refine runs_region ?_
          refine rl0 (gn rfl) rfl rfl (step_mv rfl rfl) trivial ?_
          refine rl0 (gn rfl) rfl rfl (step_add rfl (ev_mk rfl) (ev_mk rfl) (w64 (by omega))) trivial ?_
          refine rl0 (gn rfl) rfl rfl (step_as rfl rfl) trivial ?_
          refine runsL_nil ?_
          have hq0_ : cntK kp j = cntK kp (j + 1) := by (simp only [cntK]; first | (rw [kept_g rfl (by omega), if_pos (by assumption)]; done) | (rw [kept_g rfl (by omega), if_neg (Bool.eq_false_iff.1 (by assumption))]; omega) | (rw [kept_f rfl (by omega), if_neg (by simp)]; omega))
          refine ⟨_, _, ?_, sle ?_ (Nat.le_refl _), (j + 1), _, _, rfl, rfl, by omega, (fun k_ hk_ => by repeat (first | exact hf0 k_ hk_ | exact hf1 k_ hk_ | exact hf2 k_ hk_ | exact hf3 k_ hk_ | refine (upd_ne _ _ _ _ (by first | assumption | omega)).trans ?_ | fail)), by first | ((repeat (first | exact upd_eq _ _ _ | assumption | refine (upd_ne _ _ _ _ (by omega)).trans ?_ | fail)); done) | exact tl_eq (by repeat (first | exact upd_eq _ _ _ | assumption | refine (upd_ne _ _ _ _ (by omega)).trans ?_ | fail)) (by first | rfl | (simp [bytesV, beB_len]; done) | (simp [bytesV, beB_len]; omega) | omega) | (rw [← hq0_]; (repeat (first | exact upd_eq _ _ _ | assumption | refine (upd_ne _ _ _ _ (by omega)).trans ?_ | fail)); done), by first | ((repeat (first | exact upd_eq _ _ _ | assumption | refine (upd_ne _ _ _ _ (by omega)).trans ?_ | fail)); done) | exact tl_eq (by repeat (first | exact upd_eq _ _ _ | assumption | refine (upd_ne _ _ _ _ (by omega)).trans ?_ | fail)) (by first | rfl | (simp [bytesV, beB_len]; done) | (simp [bytesV, beB_len]; omega) | omega) | (rw [← hq0_]; (repeat (first | exact upd_eq _ _ _ | assumption | refine (upd_ne _ _ _ _ (by omega)).trans ?_ | fail)); done), by omega⟩
          · omega
          · (repeat' (first | exact trivial | refine ⟨⟨_, rfl, ?_⟩, ?_⟩ | fail)); all_goals (repeat' (first | exact VLe.refl _ | exact VLe.own_sl _ _ _ | exact VLe.fl_sl _ _ | exact VLe.nil_sl _ | exact VLe.nil_fl _ | exact VLes.refl _ | exact .nil | refine VLe.tup ?_ | refine VLe.agg ?_ | refine .cons ?_ ?_ | (rw [Int.natCast_add]; exact VLe.refl _) | exact vle_int (by omega) | exact vle_bool (by first | rfl | assumption | (simp_all; done)) | (rw [← hq0_]; exact VLe.refl _) | (rw [hq0_]; exact VLe.refl _) | fail))
      · skip
        refine rl0 (gn rfl) rfl rfl (step_mv rfl rfl) trivial ?_
        refine rlk rfl rfl rfl rfl rfl (ngb rfl rfl) rfl rfl ?_
        refine rlk rfl rfl rfl rfl rfl (ngb rfl rfl) rfl rfl ?_
        refine rlk rfl rfl rfl rfl rfl (ngb rfl rfl) rfl rfl ?_
        refine rlk rfl rfl rfl rfl rfl (ngb rfl rfl) rfl rfl ?_
        refine rl0 (gn rfl) rfl rfl (step_pick rfl (ev_mk rfl) (ev_mk rfl)) trivial ?_
        refine runsL_nil ?_
        refine runs_cond false (ev_mk rfl) (fun h_ => nomatch h_) (fun _ => ?_)
        refine runs_skip ?_
        refine runs_region ?_
        refine rl0 (gn rfl) rfl rfl (step_mv rfl rfl) trivial ?_
        refine rl0 (gn rfl) rfl rfl (step_add rfl (ev_mk rfl) (ev_mk rfl) (w64 (by omega))) trivial ?_
        refine rl0 (gn rfl) rfl rfl (step_as rfl rfl) trivial ?_
        refine runsL_nil ?_
        have hq0_ : cntK kp j = cntK kp (j + 1) := by (simp only [cntK]; first | (rw [kept_g rfl (by omega), if_pos (by assumption)]; done) | (rw [kept_g rfl (by omega), if_neg (Bool.eq_false_iff.1 (by assumption))]; omega) | (rw [kept_f rfl (by omega), if_neg (by simp)]; omega))
        refine ⟨_, _, ?_, sle ?_ (Nat.le_refl _), (j + 1), _, _, rfl, rfl, by omega, (fun k_ hk_ => by repeat (first | exact hf0 k_ hk_ | exact hf1 k_ hk_ | exact hf2 k_ hk_ | exact hf3 k_ hk_ | refine (upd_ne _ _ _ _ (by first | assumption | omega)).trans ?_ | fail)), by first | ((repeat (first | exact upd_eq _ _ _ | assumption | refine (upd_ne _ _ _ _ (by omega)).trans ?_ | fail)); done) | exact tl_eq (by repeat (first | exact upd_eq _ _ _ | assumption | refine (upd_ne _ _ _ _ (by omega)).trans ?_ | fail)) (by first | rfl | (simp [bytesV, beB_len]; done) | (simp [bytesV, beB_len]; omega) | omega) | (rw [← hq0_]; (repeat (first | exact upd_eq _ _ _ | assumption | refine (upd_ne _ _ _ _ (by omega)).trans ?_ | fail)); done), by first | ((repeat (first | exact upd_eq _ _ _ | assumption | refine (upd_ne _ _ _ _ (by omega)).trans ?_ | fail)); done) | exact tl_eq (by repeat (first | exact upd_eq _ _ _ | assumption | refine (upd_ne _ _ _ _ (by omega)).trans ?_ | fail)) (by first | rfl | (simp [bytesV, beB_len]; done) | (simp [bytesV, beB_len]; omega) | omega) | (rw [← hq0_]; (repeat (first | exact upd_eq _ _ _ | assumption | refine (upd_ne _ _ _ _ (by omega)).trans ?_ | fail)); done), by omega⟩
        · omega
        · (repeat' (first | exact trivial | refine ⟨⟨_, rfl, ?_⟩, ?_⟩ | fail)); all_goals (repeat' (first | exact VLe.refl _ | exact VLe.own_sl _ _ _ | exact VLe.fl_sl _ _ | exact VLe.nil_sl _ | exact VLe.nil_fl _ | exact VLes.refl _ | exact .nil | refine VLe.tup ?_ | refine VLe.agg ?_ | refine .cons ?_ ?_ | (rw [Int.natCast_add]; exact VLe.refl _) | exact vle_int (by omega) | exact vle_bool (by first | rfl | assumption | (simp_all; done)) | (rw [← hq0_]; exact VLe.refl _) | (rw [hq0_]; exact VLe.refl _) | fail))
    · skip
      refine runsL_nil ?_
      refine runs_cond false (ev_mk rfl) (fun h_ => nomatch h_) (fun _ => ?_)
      refine runs_exit ?_
      refine runs_seq ?_
      refine runs_region ?_
      refine rl0 (gn rfl) rfl rfl (step_mv rfl rfl) trivial ?_
      refine rl0 (gn rfl) rfl rfl (step_mv rfl rfl) trivial ?_
      refine rl0 (gn rfl) rfl rfl (step_mv rfl rfl) trivial ?_
      refine rl0 (gn rfl) rfl rfl (step_callc rfl Try.func15 rfl rfl rfl (tr_r (n + 0) (n + 1) (by omega) (tS3 b i a m1 c m2 kp) (tS_row b i a m1 c m2 kp).2.2 (tS_len b i a m1 c m2 kp).2.2 (0 + 1 + 1) (by omega) b i hb0 hi0 (tS_bytes b i a m1 c m2 kp ha hc) _ (tear_read hb0 hi0 a m1 c m2 kp) (fillP a 1) (by rw [tL_none a m1 c m2 hcnt]; exact (put_all (fillP_len a 1) hm1).1) (m1) (by rw [tL_none a m1 c m2 hcnt]; exact (put_all (fillP_len a 1) hm1).2.1) true (by rw [tL_none a m1 c m2 hcnt]; exact (put_all (fillP_len a 1) hm1).2.2)) (by repeat (first | exact .nil | refine .cons ?_ ?_ | exact VLe.refl _ | exact VLe.own_sl _ _ _ | exact VLe.fl_sl _ _ | exact VLe.nil_sl _ | exact VLe.nil_fl _ | refine VLe.agg ?_))) ⟨by repeat (first | exact upd_eq _ _ _ | refine (upd_ne _ _ _ _ (by omega)).trans ?_ | assumption | exact hd _ (by omega) | exact hd0 _ (by omega) | exact hd1 _ (by omega) | exact hd2 _ (by omega) | exact hd3 _ (by omega) | fail), by repeat (first | exact upd_eq _ _ _ | refine (upd_ne _ _ _ _ (by omega)).trans ?_ | assumption | exact hd _ (by omega) | exact hd0 _ (by omega) | exact hd1 _ (by omega) | exact hd2 _ (by omega) | exact hd3 _ (by omega) | fail), trivial⟩ ?_
      refine rl0 (gn rfl) rfl rfl (step_mv rfl rfl) trivial ?_
      refine rl0 (gn rfl) rfl rfl (step_extract rfl (ev_mk rfl) rfl) trivial ?_
      refine rl0 (gn rfl) rfl rfl (step_extract rfl (ev_mk rfl) rfl) trivial ?_
      refine rl0 (gn rfl) rfl rfl (step_extract rfl (ev_mk rfl) rfl) trivial ?_
      refine rl0 (gn rfl) rfl rfl (step_extract rfl (ev_mk rfl) rfl) trivial ?_
      refine rl1 (gn rfl) rfl rfl (step_allocc (k := m0 + 0) (zs := (List.replicate 224 (.int .u8 0))) (cs := List.replicate 224 (.sc (.int .u8 0))) rfl F.zero22 (by first | rfl | simp) (by first | rfl | decide | simp) (by first | rfl | simp)) ⟨by repeat (first | exact upd_eq _ _ _ | refine (upd_ne _ _ _ _ (by omega)).trans ?_ | assumption | exact hd _ (by omega) | exact hd0 _ (by omega) | exact hd1 _ (by omega) | exact hd2 _ (by omega) | exact hd3 _ (by omega) | fail), trivial⟩ (by omega) ?_
      refine' rls (gn rfl) rfl (step_storeA rfl rfl rfl rfl F.agg22 ?hm ?hl) ⟨?hb, trivial⟩ ?hk ?_
      case hb => repeat (first | exact upd_eq _ _ _ | refine (upd_ne _ _ _ _ (by omega)).trans ?_ | assumption | exact hd _ (by omega) | exact hd0 _ (by omega) | exact hd1 _ (by omega) | exact hd2 _ (by omega) | exact hd3 _ (by omega) | fail)
      case hm => first | rfl | (simp; done) | (first | (simp; done) | (rw [List.length_map]; exact fillP_len _ _) | (rw [List.length_map]; simp [zP]; done))
      case hl => first | rfl | (simp; done) | (first | (simp; done) | (rw [List.length_map]; exact fillP_len _ _) | (rw [List.length_map]; simp [zP]; done))
      case hk => omega
      refine rl0 (gn rfl) rfl rfl (step_as rfl rfl) trivial ?_
      refine rl0 (gn rfl) rfl rfl (step_as rfl rfl) trivial ?_
      refine rl0 (gn rfl) rfl rfl (step_as rfl rfl) trivial ?_
      refine runsL_nil ?_
      refine runs_seq ?_
      refine runs_region ?_
      refine rl0 (gn rfl) rfl rfl (step_mv rfl rfl) trivial ?_
      refine rl0 (gn rfl) rfl rfl (step_mv rfl rfl) trivial ?_
      refine rl0 (gn rfl) rfl rfl (step_mv rfl rfl) trivial ?_
      refine rl0 (gn rfl) rfl rfl (step_callc rfl Try.func15 rfl rfl rfl (tr_r (n + 0) (n + 1) (by omega) (tS3 b i a m1 c m2 kp) (tS_row b i a m1 c m2 kp).2.2 (tS_len b i a m1 c m2 kp).2.2 (0 + 1 + 1) (by omega) b ((i + 1) % 4) hb0 hyi (tS_bytes b i a m1 c m2 kp ha hc) _ (tear_read9 hb0 hi0 a m1 c m2 kp) (fillP 9 9) (put_all (fillP_len 9 9) (u64_small (by omega))).1 9 (put_all (fillP_len 9 9) (u64_small (by omega))).2.1 true (put_all (fillP_len 9 9) (u64_small (by omega))).2.2) (by repeat (first | exact .nil | refine .cons ?_ ?_ | exact VLe.refl _ | exact VLe.own_sl _ _ _ | exact VLe.fl_sl _ _ | exact VLe.nil_sl _ | exact VLe.nil_fl _ | refine VLe.agg ?_))) ⟨by repeat (first | exact upd_eq _ _ _ | refine (upd_ne _ _ _ _ (by omega)).trans ?_ | assumption | exact hd _ (by omega) | exact hd0 _ (by omega) | exact hd1 _ (by omega) | exact hd2 _ (by omega) | exact hd3 _ (by omega) | fail), by repeat (first | exact upd_eq _ _ _ | refine (upd_ne _ _ _ _ (by omega)).trans ?_ | assumption | exact hd _ (by omega) | exact hd0 _ (by omega) | exact hd1 _ (by omega) | exact hd2 _ (by omega) | exact hd3 _ (by omega) | fail), trivial⟩ ?_
      refine rl0 (gn rfl) rfl rfl (step_mv rfl rfl) trivial ?_
      refine rl0 (gn rfl) rfl rfl (step_extract rfl (ev_mk rfl) rfl) trivial ?_
      refine rl0 (gn rfl) rfl rfl (step_extract rfl (ev_mk rfl) rfl) trivial ?_
      refine rl0 (gn rfl) rfl rfl (step_extract rfl (ev_mk rfl) rfl) trivial ?_
      refine rl0 (gn rfl) rfl rfl (step_extract rfl (ev_mk rfl) rfl) trivial ?_
      refine rl1 (gn rfl) rfl rfl (step_allocc (k := m0 + 1) (zs := (List.replicate 224 (.int .u8 0))) (cs := List.replicate 224 (.sc (.int .u8 0))) rfl F.zero22 (by first | rfl | simp) (by first | rfl | decide | simp) (by first | rfl | simp)) ⟨by repeat (first | exact upd_eq _ _ _ | refine (upd_ne _ _ _ _ (by omega)).trans ?_ | assumption | exact hd _ (by omega) | exact hd0 _ (by omega) | exact hd1 _ (by omega) | exact hd2 _ (by omega) | exact hd3 _ (by omega) | fail), trivial⟩ (by omega) ?_
      refine' rls (gn rfl) rfl (step_storeA rfl rfl rfl rfl F.agg22 ?hm ?hl) ⟨?hb, trivial⟩ ?hk ?_
      case hb => repeat (first | exact upd_eq _ _ _ | refine (upd_ne _ _ _ _ (by omega)).trans ?_ | assumption | exact hd _ (by omega) | exact hd0 _ (by omega) | exact hd1 _ (by omega) | exact hd2 _ (by omega) | exact hd3 _ (by omega) | fail)
      case hm => first | rfl | (simp; done) | (first | (simp; done) | (rw [List.length_map]; exact fillP_len _ _) | (rw [List.length_map]; simp [zP]; done))
      case hl => first | rfl | (simp; done) | (first | (simp; done) | (rw [List.length_map]; exact fillP_len _ _) | (rw [List.length_map]; simp [zP]; done))
      case hk => omega
      refine rl0 (gn rfl) rfl rfl (step_as rfl rfl) trivial ?_
      refine rl0 (gn rfl) rfl rfl (step_as rfl rfl) trivial ?_
      refine rl0 (gn rfl) rfl rfl (step_as rfl rfl) trivial ?_
      refine runsL_nil ?_
      refine runs_seq ?_
      refine runs_seq ?_
      refine runs_draw (by kernel_rfl) (by kernel_rfl) (by kernel_rfl) ?_
      refine dl0 (gn rfl) rfl rfl (step_mv rfl rfl) trivial ?_
      refine dl_neq (gn rfl) rfl rfl rfl rfl rfl (fun h12 => ?_) (fun h12 => ?_)
      · exact False.elim (by omega)
      refine dl0 (gn rfl) rfl rfl (step_mv rfl rfl) trivial ?_
      refine dl0 (gy rfl rfl rfl rfl rfl rfl) rfl rfl (step_mv rfl rfl) trivial ?_
      refine dl_neq (gy rfl rfl rfl rfl rfl rfl) rfl rfl rfl rfl rfl (fun h13 => ?_) (fun h13 => ?_)
      · exact False.elim (by omega)
      refine dl0 (gn rfl) rfl rfl (step_pick rfl (ev_mk rfl) (ev_mk rfl)) trivial ?_
      refine dl0 (gn rfl) rfl rfl (step_mv rfl rfl) trivial ?_
      refine dl0 (gy rfl rfl rfl rfl rfl rfl) rfl rfl (step_mv rfl rfl) trivial ?_
      refine dl0 (gy rfl rfl rfl rfl rfl rfl) rfl rfl (step_unOp (c := .bool false) rfl (ev_mk rfl) (fun _ => rfl)) trivial ?_
      refine dl0 (gn rfl) rfl rfl (step_pick rfl (ev_mk rfl) (ev_mk rfl)) trivial ?_
      refine dl0 (gn rfl) rfl rfl (step_mv rfl rfl) trivial ?_
      refine' dl0 (gy rfl rfl rfl rfl rfl rfl) rfl rfl (step_load_all rfl rfl F.agg22 ?hl) ⟨?hb, trivial⟩ ?_
      case hb => repeat (first | exact upd_eq _ _ _ | refine (upd_ne _ _ _ _ (by omega)).trans ?_ | assumption | exact hd _ (by omega) | exact hd0 _ (by omega) | exact hd1 _ (by omega) | exact hd2 _ (by omega) | exact hd3 _ (by omega) | fail)
      case hl => first | rfl | (simp; done) | (first | (simp; done) | (rw [List.length_map]; exact fillP_len _ _) | (rw [List.length_map]; simp [zP]; done))
      refine dl0 (gy rfl rfl rfl rfl rfl rfl) rfl rfl (step_callc rfl Try.func14 rfl rfl rfl (filled_c 9 9) (by repeat (first | exact .nil | refine .cons ?_ ?_ | exact VLe.refl _ | exact VLe.own_sl _ _ _ | exact VLe.fl_sl _ _ | exact VLe.nil_sl _ | exact VLe.nil_fl _ | refine VLe.agg ?_))) trivial ?_
      refine dl0 (gy rfl rfl rfl rfl rfl rfl) rfl rfl (step_neq22 (q := true) rfl rfl rfl (fillP_len 9 9) (fillP_len 9 9) (decide_eq_true rfl)) trivial ?_
      refine dl0 (gn rfl) rfl rfl (step_pick rfl (ev_mk rfl) (ev_mk rfl)) trivial ?_
      refine dl0 (gn rfl) rfl rfl (step_mv rfl rfl) trivial ?_
      refine dl0 (gy rfl rfl rfl rfl rfl rfl) rfl rfl (step_mv rfl rfl) trivial ?_
      refine dl_neq (gy rfl rfl rfl rfl rfl rfl) rfl rfl rfl rfl rfl (fun h14 => ?_) (fun h14 => ?_)
      · exact False.elim (by omega)
      refine dl0 (gn rfl) rfl rfl (step_pick rfl (ev_mk rfl) (ev_mk rfl)) trivial ?_
      refine dlnil ?_ ?_
      · repeat' (first | exact trivial | exact .inr (ap0 _ _ _ _) | exact .inr (ap2 _ _ _ _) | exact .inr (ap3 _ _ _ _) | exact .inr ⟨by first | (simp; done) | (simp; omega), by first | (simp; done) | (simp; omega)⟩ | exact .inl (by kernel_rfl) | refine ⟨?_, ?_⟩ | fail)
      refine runs_cond false (ev_mk rfl) (fun h_ => nomatch h_) (fun _ => ?_)
      refine runs_skip ?_
      refine runs_seq ?_
      refine runs_seq ?_
      refine runs_region ?_
      refine rl0 (gn rfl) rfl rfl (step_mv rfl rfl) trivial ?_
      refine runsL_nil ?_
      refine runs_block ?_
      refine runs_seq ?_
      refine runs_region ?_
      refine rl_eql (gn rfl) rfl rfl rfl rfl rfl (fun h15 => ?_) (fun h15 => ?_)
      rotate_left
      · exact False.elim (by (obtain rfl : j = 4 := by omega); omega)
      refine rl0 (gn rfl) rfl rfl (step_as rfl rfl) trivial ?_
      refine runsL_nil ?_
      refine runs_cond true (ev_mk rfl) (fun _ => ?_) (fun h_ => nomatch h_)
      refine runs_seq ?_
      refine runs_draw (by kernel_rfl) (by kernel_rfl) (by kernel_rfl) ?_
      refine dl0 (gn rfl) rfl rfl (step_mv rfl rfl) trivial ?_
      refine dl0 (gn rfl) rfl rfl (step_mv rfl rfl) trivial ?_
      refine dl0 (gy rfl rfl rfl rfl rfl rfl) rfl rfl (step_mv rfl rfl) trivial ?_
      refine dl0 (gy rfl rfl rfl rfl rfl rfl) rfl rfl (step_mv rfl rfl) trivial ?_
      refine dl_eql (gy rfl rfl rfl rfl rfl rfl) rfl rfl rfl rfl rfl (fun h16 => ?_) (fun h16 => ?_)
      rotate_left
      · exact False.elim (by exact h16 rfl)
      refine dl0 (gn rfl) rfl rfl (step_pick rfl (ev_mk rfl) (ev_mk rfl)) trivial ?_
      refine dl0 (gn rfl) rfl rfl (step_mv rfl rfl) trivial ?_
      refine' dl0 (gy rfl rfl rfl rfl rfl rfl) rfl rfl (step_load_all rfl rfl F.agg22 ?hl) ⟨?hb, trivial⟩ ?_
      case hb => repeat (first | exact upd_eq _ _ _ | refine (upd_ne _ _ _ _ (by omega)).trans ?_ | assumption | exact hd _ (by omega) | exact hd0 _ (by omega) | exact hd1 _ (by omega) | exact hd2 _ (by omega) | exact hd3 _ (by omega) | fail)
      case hl => first | rfl | (simp; done) | (first | (simp; done) | (rw [List.length_map]; exact fillP_len _ _) | (rw [List.length_map]; simp [zP]; done))
      refine dl0 (gy rfl rfl rfl rfl rfl rfl) rfl rfl (step_mv rfl rfl) trivial ?_
      refine dl0 (gy rfl rfl rfl rfl rfl rfl) rfl rfl (step_callc rfl Try.func14 rfl rfl rfl (filled_c a 1) (by repeat (first | exact .nil | refine .cons ?_ ?_ | exact VLe.refl _ | exact VLe.own_sl _ _ _ | exact VLe.fl_sl _ _ | exact VLe.nil_sl _ | exact VLe.nil_fl _ | refine VLe.agg ?_))) trivial ?_
      refine dl0 (gy rfl rfl rfl rfl rfl rfl) rfl rfl (step_eql22 (q := true) rfl rfl rfl (fillP_len a 1) (fillP_len a 1) (decide_eq_true rfl)) trivial ?_
      refine dl0 (gn rfl) rfl rfl (step_pick rfl (ev_mk rfl) (ev_mk rfl)) trivial ?_
      refine dl0 (gn rfl) rfl rfl (step_mv rfl rfl) trivial ?_
      refine dl0 (gy rfl rfl rfl rfl rfl rfl) rfl rfl (step_callc rfl Try.func6 rfl rfl rfl (works_c) (by repeat (first | exact .nil | refine .cons ?_ ?_ | exact VLe.refl _ | exact VLe.own_sl _ _ _ | exact VLe.fl_sl _ _ | exact VLe.nil_sl _ | exact VLe.nil_fl _ | refine VLe.agg ?_))) trivial ?_
      refine dl0 (gn rfl) rfl rfl (step_pick rfl (ev_mk rfl) (ev_mk rfl)) trivial ?_
      refine dl0 (gn rfl) rfl rfl (step_as rfl rfl) trivial ?_
      refine dlnil ?_ ?_
      · repeat' (first | exact trivial | exact .inr (ap0 _ _ _ _) | exact .inr (ap2 _ _ _ _) | exact .inr (ap3 _ _ _ _) | exact .inr ⟨by first | (simp; done) | (simp; omega), by first | (simp; done) | (simp; omega)⟩ | exact .inl (by kernel_rfl) | refine ⟨?_, ?_⟩ | fail)
      refine runs_ret ?_
      refine ⟨by first | exact .inr rfl | exact .inl rfl, fin_mkg (rest rfl res0) ?_ ?_ ?_ ?_ ?_⟩
      · (repeat' (first | exact VLe.refl _ | exact VLe.own_sl _ _ _ | exact VLe.fl_sl _ _ | exact VLe.nil_sl _ | exact VLe.nil_fl _ | exact VLes.refl _ | exact .nil | refine VLe.tup ?_ | refine VLe.agg ?_ | refine .cons ?_ ?_ | (rw [Int.natCast_add]; exact VLe.refl _) | exact vle_int (by omega) | exact vle_bool (by first | rfl | assumption | (simp_all; done)) | fail))
      · repeat (first | exact trivial | assumption | omega | exact bd_bs | exact bd_row | exact bd_secs | exact bd_bools | (refine bdR_map (fun _ => ?_)) | (refine bdL_map (fun _ => ?_)) | refine ⟨?_, ?_⟩ | fail)
      · intro k_ hk_; exact ble (by first | exact rfl | (refine (upd_ne _ _ _ _ (by omega)).trans ?_; first | exact rfl | skip; repeat (first | exact rfl | refine (upd_ne _ _ _ _ (by omega)).trans ?_ | assumption | exact hf0 _ (by omega) | exact hf1 _ (by omega) | exact hf2 _ (by omega) | exact hf3 _ (by omega) | exact hf0 _ (by omega) (by first | assumption | omega) | exact hf1 _ (by omega) (by first | assumption | omega) | exact hf2 _ (by omega) (by first | assumption | omega) | exact hf3 _ (by omega) (by first | assumption | omega) | exact hf0 _ (by omega) (by first | assumption | omega) (by first | assumption | omega) | exact hf1 _ (by omega) (by first | assumption | omega) (by first | assumption | omega) | exact hf2 _ (by omega) (by first | assumption | omega) (by first | assumption | omega) | exact hf3 _ (by omega) (by first | assumption | omega) (by first | assumption | omega))) | exact hf0 _ (by omega) | exact hf1 _ (by omega) | exact hf2 _ (by omega) | exact hf3 _ (by omega) | exact hf0 _ (by omega) (by first | assumption | omega) | exact hf1 _ (by omega) (by first | assumption | omega) | exact hf2 _ (by omega) (by first | assumption | omega) | exact hf3 _ (by omega) (by first | assumption | omega) | exact hf0 _ (by omega) (by first | assumption | omega) (by first | assumption | omega) | exact hf1 _ (by omega) (by first | assumption | omega) (by first | assumption | omega) | exact hf2 _ (by omega) (by first | assumption | omega) (by first | assumption | omega) | exact hf3 _ (by omega) (by first | assumption | omega) (by first | assumption | omega))
      · intro p hp; cases hp
      · repeat (first | exact trivial | assumption | omega | exact bd_bs | exact bd_row | exact bd_secs | exact bd_bools | (refine bdR_map (fun _ => ?_)) | (refine bdL_map (fun _ => ?_)) | refine ⟨?_, ?_⟩ | fail)
set_option maxRecDepth 100000 in
set_option maxHeartbeats 4000000 in
theorem tears_4 (b i a c m1 m2 : Int) (kp : List Bool) (hm1 : U64 m1) (hm2 : U64 m2) (hlen : (kp.length : Int) ≤ 9223372036854775807) (ha : 0 ≤ a ∧ a < 256) (hc : 0 ≤ c ∧ c < 256) (hb0 : 0 ≤ b ∧ b ≤ 8) (hi0 : 0 ≤ i ∧ i ≤ 3) (hne : m1 ≠ m2) (hkl : kp.length ≤ 30) (hcnt : cntK kp 4 = 4) : Does Try.prog 5 [.sc (.int .i64 b), .sc (.int .i64 i), .sc (.int .u8 a), .sc (.int .u8 c), .sc (.int .u64 m1), .sc (.int .u64 m2), .sl 1 (boolsV kp)] [] [] (.sc (.bool true)) := by
  refine does_mkg 40 Try.func5 rfl rfl rfl (fun n B bx hd hpre hup hvs hbx hgx => ?_)
  have hyi : 0 ≤ (i + 1) % 4 ∧ (i + 1) % 4 ≤ 3 := by omega
  have hcl := cntK_le kp
  refine runs_seq ?_
  refine runs_region ?_
  refine rl0 (gn rfl) rfl rfl (step_as rfl rfl) trivial ?_
  refine runsL_nil ?_
  refine runs_seq ?_
  refine runs_seq ?_
  refine runs_region ?_
  refine rl0 (gn rfl) rfl rfl (step_mv rfl rfl) trivial ?_
  refine rl_lss (gn rfl) rfl rfl rfl rfl rfl (fun h1 => ?_) (fun h1 => ?_)
  · exact False.elim (by omega)
  refine rl0 (gn rfl) rfl rfl (step_mv rfl rfl) trivial ?_
  refine rl0 (gy rfl rfl rfl rfl rfl rfl) rfl rfl (step_mv rfl rfl) trivial ?_
  refine rl_gtr (gy rfl rfl rfl rfl rfl rfl) rfl rfl rfl rfl rfl (fun h2 => ?_) (fun h2 => ?_)
  · exact False.elim (by omega)
  refine rl0 (gn rfl) rfl rfl (step_pick rfl (ev_mk rfl) (ev_mk rfl)) trivial ?_
  refine rl0 (gn rfl) rfl rfl (step_mv rfl rfl) trivial ?_
  refine rl0 (gy rfl rfl rfl rfl rfl rfl) rfl rfl (step_mv rfl rfl) trivial ?_
  refine rl_lss (gy rfl rfl rfl rfl rfl rfl) rfl rfl rfl rfl rfl (fun h3 => ?_) (fun h3 => ?_)
  · exact False.elim (by omega)
  refine rl0 (gn rfl) rfl rfl (step_pick rfl (ev_mk rfl) (ev_mk rfl)) trivial ?_
  refine rl0 (gn rfl) rfl rfl (step_mv rfl rfl) trivial ?_
  refine rl0 (gy rfl rfl rfl rfl rfl rfl) rfl rfl (step_mv rfl rfl) trivial ?_
  refine rl_gtr (gy rfl rfl rfl rfl rfl rfl) rfl rfl rfl rfl rfl (fun h4 => ?_) (fun h4 => ?_)
  · exact False.elim (by omega)
  refine rl0 (gn rfl) rfl rfl (step_pick rfl (ev_mk rfl) (ev_mk rfl)) trivial ?_
  refine rl0 (gn rfl) rfl rfl (step_mv rfl rfl) trivial ?_
  refine rl0 (gy rfl rfl rfl rfl rfl rfl) rfl rfl (step_mv rfl rfl) trivial ?_
  refine rl0 (gy rfl rfl rfl rfl rfl rfl) rfl rfl (step_mv rfl rfl) trivial ?_
  refine rl_eql (gy rfl rfl rfl rfl rfl rfl) rfl rfl rfl rfl rfl (fun h5 => ?_) (fun h5 => ?_)
  · exact False.elim (by exact hne h5)
  refine rl0 (gn rfl) rfl rfl (step_pick rfl (ev_mk rfl) (ev_mk rfl)) trivial ?_
  refine rl0 (gn rfl) rfl rfl (step_mv rfl rfl) trivial ?_
  refine rl0 (gy rfl rfl rfl rfl rfl rfl) rfl rfl (step_mv rfl rfl) trivial ?_
  refine rl0 (gy rfl rfl rfl rfl rfl rfl) rfl rfl (step_len (m := kp.length) rfl rfl (ev_mk rfl) (.inl ⟨⟨_, Try.underlying42⟩, .inl ⟨_, _, .inl rfl, by simp [boolsV]⟩⟩)) trivial ?_
  refine rl_gtr (gy rfl rfl rfl rfl rfl rfl) rfl rfl rfl rfl rfl (fun h6 => ?_) (fun h6 => ?_)
  · exact False.elim (by omega)
  refine rl0 (gn rfl) rfl rfl (step_pick rfl (ev_mk rfl) (ev_mk rfl)) trivial ?_
  refine runsL_nil ?_
  refine runs_cond false (ev_mk rfl) (fun h_ => nomatch h_) (fun _ => ?_)
  refine runs_skip ?_
  refine runs_seq ?_
  refine runs_region ?_
  refine rl2 (gn rfl) rfl rfl (step_callc rfl Try.func12 rfl rfl rfl (new_ok2 24 (by omega) (by omega) (n + 0) (n + 1) (by omega)) (by repeat (first | exact .nil | refine .cons ?_ ?_ | exact VLe.refl _ | exact VLe.own_sl _ _ _ | exact VLe.fl_sl _ _ | exact VLe.nil_sl _ | exact VLe.nil_fl _ | refine VLe.agg ?_))) ⟨by repeat (first | exact upd_eq _ _ _ | refine (upd_ne _ _ _ _ (by omega)).trans ?_ | assumption | exact hd _ (by omega) | exact hd0 _ (by omega) | exact hd1 _ (by omega) | exact hd2 _ (by omega) | exact hd3 _ (by omega) | fail), by repeat (first | exact upd_eq _ _ _ | refine (upd_ne _ _ _ _ (by omega)).trans ?_ | assumption | exact hd _ (by omega) | exact hd0 _ (by omega) | exact hd1 _ (by omega) | exact hd2 _ (by omega) | exact hd3 _ (by omega) | fail), trivial⟩ (by omega) (by omega) ?_
  refine rl0 (gn rfl) rfl rfl (step_mv rfl rfl) trivial ?_
  refine rl0 (gn rfl) rfl rfl (step_extract rfl (ev_mk rfl) rfl) trivial ?_
  refine rl0 (gn rfl) rfl rfl (step_extract rfl (ev_mk rfl) rfl) trivial ?_
  refine rl0 (gn rfl) rfl rfl (step_as rfl rfl) trivial ?_
  refine rl0 (gn rfl) rfl rfl (step_as rfl rfl) trivial ?_
  refine runsL_nil ?_
  refine runs_seq ?_
  refine runs_seq ?_
  refine runs_region ?_
  refine rl0 (gn rfl) rfl rfl (step_mv rfl rfl) trivial ?_
  refine rl0 (gn rfl) rfl rfl (step_eq_nil (b := false) rfl (ev_mk rfl) (ev_mk rfl) Try.underlying31 ⟨_, .inl ⟨.inl ⟨_, _, rfl⟩, rfl⟩, .inl ⟨rfl, rfl⟩⟩) trivial ?_
  refine rl0 (gn rfl) rfl rfl (step_mv rfl rfl) trivial ?_
  refine rl0 (gy rfl rfl rfl rfl rfl rfl) rfl rfl (step_mv rfl rfl) trivial ?_
  refine rl_neq (gy rfl rfl rfl rfl rfl rfl) rfl rfl rfl rfl rfl (fun h7 => ?_) (fun h7 => ?_)
  · exact False.elim (by omega)
  refine rl0 (gn rfl) rfl rfl (step_pick rfl (ev_mk rfl) (ev_mk rfl)) trivial ?_
  refine runsL_nil ?_
  refine runs_cond false (ev_mk rfl) (fun h_ => nomatch h_) (fun _ => ?_)
  refine runs_skip ?_
  refine runs_seq ?_
  refine runs_region ?_
  refine rl0 (gn rfl) rfl rfl (step_mv rfl rfl) trivial ?_
  refine rl0 (gn rfl) rfl rfl (step_add rfl (ev_mk rfl) (ev_mk rfl) (w64 (by omega))) trivial ?_
  refine rl0 (gn rfl) rfl rfl (step_rem rfl (ev_mk rfl) (ev_mk rfl) (by omega) (by omega)) trivial ?_
  refine rl0 (gn rfl) rfl rfl (step_as rfl rfl) trivial ?_
  refine runsL_nil ?_
  refine runs_seq ?_
  refine runs_seq ?_
  refine runs_region ?_
  refine rl0 (gn rfl) rfl rfl (step_mv rfl rfl) trivial ?_
  refine rl0 (gn rfl) rfl rfl (step_mv rfl rfl) trivial ?_
  refine rl0 (gn rfl) rfl rfl (step_mv rfl rfl) trivial ?_
  refine rl0 (gn rfl) rfl rfl (step_mv rfl rfl) trivial ?_
  refine rl0 (gn rfl) rfl rfl (step_callc rfl Try.func14 rfl rfl rfl (filled_c a 1) (by repeat (first | exact .nil | refine .cons ?_ ?_ | exact VLe.refl _ | exact VLe.own_sl _ _ _ | exact VLe.fl_sl _ _ | exact VLe.nil_sl _ | exact VLe.nil_fl _ | refine VLe.agg ?_))) trivial ?_
  refine rl0 (gn rfl) rfl rfl (step_mv rfl rfl) trivial ?_
  refine rl2 (gn rfl) rfl rfl (step_callc rfl Try.func13 rfl rfl rfl (tr_w (n + 0) (n + 1) (by omega) (zS 24) (zS_row 24) (zS_len 24) 0 (by omega) b i hb0 hi0 (fillP a 1) (fillP_len a 1) m1 hm1) (by repeat (first | exact .nil | refine .cons ?_ ?_ | exact VLe.refl _ | exact VLe.own_sl _ _ _ | exact VLe.fl_sl _ _ | exact VLe.nil_sl _ | exact VLe.nil_fl _ | refine VLe.agg ?_))) ⟨by repeat (first | exact upd_eq _ _ _ | refine (upd_ne _ _ _ _ (by omega)).trans ?_ | assumption | exact hd _ (by omega) | exact hd0 _ (by omega) | exact hd1 _ (by omega) | exact hd2 _ (by omega) | exact hd3 _ (by omega) | fail), by repeat (first | exact upd_eq _ _ _ | refine (upd_ne _ _ _ _ (by omega)).trans ?_ | assumption | exact hd _ (by omega) | exact hd0 _ (by omega) | exact hd1 _ (by omega) | exact hd2 _ (by omega) | exact hd3 _ (by omega) | fail), trivial⟩ (by omega) (by omega) ?_
  refine rl_neq (gn rfl) rfl rfl rfl rfl rfl (fun h8 => ?_) (fun h8 => ?_)
  · exact False.elim (by omega)
  refine rl0 (gn rfl) rfl rfl (step_mv rfl rfl) trivial ?_
  refine rl0 (gy rfl rfl rfl rfl rfl rfl) rfl rfl (step_mv rfl rfl) trivial ?_
  refine rl0 (gy rfl rfl rfl rfl rfl rfl) rfl rfl (step_mv rfl rfl) trivial ?_
  refine rl0 (gy rfl rfl rfl rfl rfl rfl) rfl rfl (step_mv rfl rfl) trivial ?_
  refine rl0 (gy rfl rfl rfl rfl rfl rfl) rfl rfl (step_callc rfl Try.func14 rfl rfl rfl (filled_c 9 9) (by repeat (first | exact .nil | refine .cons ?_ ?_ | exact VLe.refl _ | exact VLe.own_sl _ _ _ | exact VLe.fl_sl _ _ | exact VLe.nil_sl _ | exact VLe.nil_fl _ | refine VLe.agg ?_))) trivial ?_
  refine rl2 (gy rfl rfl rfl rfl rfl rfl) rfl rfl (step_callc rfl Try.func13 rfl rfl rfl (tr_w (n + 0) (n + 1) (by omega) (tS1 b i a m1) (tS_row b i a m1 c m2 kp).1 (tS_len b i a m1 c m2 kp).1 (0 + 1) (by omega) b ((i + 1) % 4) hb0 hyi (fillP 9 9) (fillP_len 9 9) 9 (u64_small (by omega))) (by repeat (first | exact .nil | refine .cons ?_ ?_ | exact VLe.refl _ | exact VLe.own_sl _ _ _ | exact VLe.fl_sl _ _ | exact VLe.nil_sl _ | exact VLe.nil_fl _ | refine VLe.agg ?_))) ⟨by repeat (first | exact upd_eq _ _ _ | refine (upd_ne _ _ _ _ (by omega)).trans ?_ | assumption | exact hd _ (by omega) | exact hd0 _ (by omega) | exact hd1 _ (by omega) | exact hd2 _ (by omega) | exact hd3 _ (by omega) | fail), by repeat (first | exact upd_eq _ _ _ | refine (upd_ne _ _ _ _ (by omega)).trans ?_ | assumption | exact hd _ (by omega) | exact hd0 _ (by omega) | exact hd1 _ (by omega) | exact hd2 _ (by omega) | exact hd3 _ (by omega) | fail), trivial⟩ (by omega) (by omega) ?_
  refine rl_neq (gy rfl rfl rfl rfl rfl rfl) rfl rfl rfl rfl rfl (fun h9 => ?_) (fun h9 => ?_)
  · exact False.elim (by omega)
  refine rl0 (gn rfl) rfl rfl (step_pick rfl (ev_mk rfl) (ev_mk rfl)) trivial ?_
  refine runsL_nil ?_
  refine runs_cond false (ev_mk rfl) (fun h_ => nomatch h_) (fun _ => ?_)
  refine runs_skip ?_
  refine runs_seq ?_
  refine runs_region ?_
  refine rl0 (gn rfl) rfl rfl (step_mv rfl rfl) trivial ?_
  refine rl0 (gn rfl) rfl rfl (step_mv rfl rfl) trivial ?_
  refine rl1 (gn rfl) rfl rfl (step_callc rfl Try.func16 rfl rfl rfl (fuse0_c (n + 0) (n + 1) (tS2 b i a m1) (0 + 1 + 1) (-1) [] false kp (by omega)) (by repeat (first | exact .nil | refine .cons ?_ ?_ | exact VLe.refl _ | exact VLe.own_sl _ _ _ | exact VLe.fl_sl _ _ | exact VLe.nil_sl _ | exact VLe.nil_fl _ | refine VLe.agg ?_))) ⟨by repeat (first | exact upd_eq _ _ _ | refine (upd_ne _ _ _ _ (by omega)).trans ?_ | assumption | exact hd _ (by omega) | exact hd0 _ (by omega) | exact hd1 _ (by omega) | exact hd2 _ (by omega) | exact hd3 _ (by omega) | fail), by repeat (first | exact upd_eq _ _ _ | refine (upd_ne _ _ _ _ (by omega)).trans ?_ | assumption | exact hd _ (by omega) | exact hd0 _ (by omega) | exact hd1 _ (by omega) | exact hd2 _ (by omega) | exact hd3 _ (by omega) | fail), trivial⟩ (by omega) ?_
  refine runsL_nil ?_
  refine runs_seq ?_
  refine runs_seq ?_
  refine runs_region ?_
  refine rl0 (gn rfl) rfl rfl (step_mv rfl rfl) trivial ?_
  refine rl0 (gn rfl) rfl rfl (step_mv rfl rfl) trivial ?_
  refine rl0 (gn rfl) rfl rfl (step_mv rfl rfl) trivial ?_
  refine rl0 (gn rfl) rfl rfl (step_mv rfl rfl) trivial ?_
  refine rl0 (gn rfl) rfl rfl (step_callc rfl Try.func14 rfl rfl rfl (filled_c c 2) (by repeat (first | exact .nil | refine .cons ?_ ?_ | exact VLe.refl _ | exact VLe.own_sl _ _ _ | exact VLe.fl_sl _ _ | exact VLe.nil_sl _ | exact VLe.nil_fl _ | refine VLe.agg ?_))) trivial ?_
  refine rl0 (gn rfl) rfl rfl (step_mv rfl rfl) trivial ?_
  refine rl2 (gn rfl) rfl rfl (step_callc rfl Try.func13 rfl rfl rfl (tr_t (n + 0) (n + 1) (by omega) (tS2 b i a m1) (tS_row b i a m1 c m2 kp).2.1 (tS_len b i a m1 c m2 kp).2.1 (0 + 1 + 1) (by omega) kp (by omega) b i hb0 hi0 (fillP c 2) (fillP_len c 2) m2 hm2) (by repeat (first | exact .nil | refine .cons ?_ ?_ | exact VLe.refl _ | exact VLe.own_sl _ _ _ | exact VLe.fl_sl _ _ | exact VLe.nil_sl _ | exact VLe.nil_fl _ | refine VLe.agg ?_))) ⟨by repeat (first | exact upd_eq _ _ _ | refine (upd_ne _ _ _ _ (by omega)).trans ?_ | assumption | exact hd _ (by omega) | exact hd0 _ (by omega) | exact hd1 _ (by omega) | exact hd2 _ (by omega) | exact hd3 _ (by omega) | fail), by repeat (first | exact upd_eq _ _ _ | refine (upd_ne _ _ _ _ (by omega)).trans ?_ | assumption | exact hd _ (by omega) | exact hd0 _ (by omega) | exact hd1 _ (by omega) | exact hd2 _ (by omega) | exact hd3 _ (by omega) | fail), trivial⟩ (by omega) (by omega) ?_
  refine rl_neq (gn rfl) rfl rfl rfl rfl rfl (fun h10 => ?_) (fun h10 => ?_)
  · exact False.elim (by omega)
  refine runsL_nil ?_
  refine runs_cond false (ev_mk rfl) (fun h_ => nomatch h_) (fun _ => ?_)
  refine runs_skip ?_
  refine runs_seq ?_
  refine runs_region ?_
  refine rl0 (gn rfl) rfl rfl (step_mv rfl rfl) trivial ?_
  refine rl1 (gn rfl) rfl rfl (step_callc rfl Try.func18 rfl rfl rfl (up_c (n + 0) (n + 1) (tS3 b i a m1 c m2 kp) (0 + 1 + 1) 0 kp true) (by repeat (first | exact .nil | refine .cons ?_ ?_ | exact VLe.refl _ | exact VLe.own_sl _ _ _ | exact VLe.fl_sl _ _ | exact VLe.nil_sl _ | exact VLe.nil_fl _ | refine VLe.agg ?_))) ⟨by repeat (first | exact upd_eq _ _ _ | refine (upd_ne _ _ _ _ (by omega)).trans ?_ | assumption | exact hd _ (by omega) | exact hd0 _ (by omega) | exact hd1 _ (by omega) | exact hd2 _ (by omega) | exact hd3 _ (by omega) | fail), by repeat (first | exact upd_eq _ _ _ | refine (upd_ne _ _ _ _ (by omega)).trans ?_ | assumption | exact hd _ (by omega) | exact hd0 _ (by omega) | exact hd1 _ (by omega) | exact hd2 _ (by omega) | exact hd3 _ (by omega) | fail), trivial⟩ (by omega) ?_
  refine runsL_nil ?_
  refine runs_seq ?_
  refine runs_region ?_
  refine rl0 (gn rfl) rfl rfl (step_as rfl rfl) trivial ?_
  refine runsL_nil ?_
  refine runs_seq ?_
  refine runs_seq ?_
  refine runs_region ?_
  refine rl0 (gn rfl) rfl rfl (step_as rfl rfl) trivial ?_
  refine runsL_nil ?_
  refine runs_block ?_
  have hs0_ : 0 = cntK kp 0 := by rfl
  refine runs_loop (fun (ri_ : Nat) (st_ : Go.Vm.S) => ∃ (j : Nat) (m0 : Nat) (b0 : Nat → Box), (st_ = ⟨mk [(0, .sc (.int .i64 b)), (1, .sc (.int .i64 i)), (2, .sc (.int .u8 a)), (3, .sc (.int .u8 c)), (4, .sc (.int .u64 m1)), (5, .sc (.int .u64 m2)), (6, .sl 1 (boolsV kp)), (14, .sc (.bool false)), (15, .ref (n + 0) 0), (17, .sc (.int .i64 ((i + 1) % 4))), (18, .sc (.int .i64 (cntK kp j))), (19, .sc (.int .i64 j))], m0, b0⟩) ∧ (ri_ = 4 - j) ∧ (n + 2 ≤ m0) ∧ (∀ k_, k_ < n → b0 k_ = bx k_) ∧ (b0 (n + 1) = .cells ((tS3 b i a m1 c m2 kp).flatten.map bV)) ∧ (b0 (n + 0) = .cells [.msl (n + 1) 0 ((tS3 b i a m1 c m2 kp)).length ((tS3 b i a m1 c m2 kp)).length 64, .sc (.int .i64 (0 + 1 + 1)), .sc (.int .i64 (-1)), .sl 1 (boolsV ([])), .sc (.bool false)]) ∧ (j ≤ 4)) (4 - 0) ⟨_, sle ?_ (Nat.le_refl _), 0, _, _, rfl, rfl, ?_⟩ ?_
  · (repeat' (first | exact trivial | refine ⟨⟨_, rfl, ?_⟩, ?_⟩ | fail)); all_goals (repeat' (first | exact VLe.refl _ | exact VLe.own_sl _ _ _ | exact VLe.fl_sl _ _ | exact VLe.nil_sl _ | exact VLe.nil_fl _ | exact VLes.refl _ | exact .nil | refine VLe.tup ?_ | refine VLe.agg ?_ | refine .cons ?_ ?_ | (rw [Int.natCast_add]; exact VLe.refl _) | exact vle_int (by omega) | exact vle_bool (by first | rfl | assumption | (simp_all; done)) | (rw [← hs0_]; exact VLe.refl _) | (rw [hs0_]; exact VLe.refl _) | fail))
  · exact ⟨by omega, (fun k_ hk_ => by first | exact rfl | (refine (upd_ne _ _ _ _ (by omega)).trans ?_; first | exact rfl | skip; repeat (first | exact rfl | refine (upd_ne _ _ _ _ (by omega)).trans ?_ | assumption | exact hf0 _ (by omega) | exact hf1 _ (by omega) | exact hf2 _ (by omega) | exact hf3 _ (by omega) | exact hf0 _ (by omega) (by first | assumption | omega) | exact hf1 _ (by omega) (by first | assumption | omega) | exact hf2 _ (by omega) (by first | assumption | omega) | exact hf3 _ (by omega) (by first | assumption | omega) | exact hf0 _ (by omega) (by first | assumption | omega) (by first | assumption | omega) | exact hf1 _ (by omega) (by first | assumption | omega) (by first | assumption | omega) | exact hf2 _ (by omega) (by first | assumption | omega) (by first | assumption | omega) | exact hf3 _ (by omega) (by first | assumption | omega) (by first | assumption | omega))) | exact hf0 _ (by omega) | exact hf1 _ (by omega) | exact hf2 _ (by omega) | exact hf3 _ (by omega) | exact hf0 _ (by omega) (by first | assumption | omega) | exact hf1 _ (by omega) (by first | assumption | omega) | exact hf2 _ (by omega) (by first | assumption | omega) | exact hf3 _ (by omega) (by first | assumption | omega) | exact hf0 _ (by omega) (by first | assumption | omega) (by first | assumption | omega) | exact hf1 _ (by omega) (by first | assumption | omega) (by first | assumption | omega) | exact hf2 _ (by omega) (by first | assumption | omega) (by first | assumption | omega) | exact hf3 _ (by omega) (by first | assumption | omega) (by first | assumption | omega)), by first | ((repeat (first | exact upd_eq _ _ _ | assumption | refine (upd_ne _ _ _ _ (by omega)).trans ?_ | fail)); done) | exact tl_eq (by repeat (first | exact upd_eq _ _ _ | assumption | refine (upd_ne _ _ _ _ (by omega)).trans ?_ | fail)) (by first | rfl | (simp [bytesV, beB_len]; done) | (simp [bytesV, beB_len]; omega) | omega) | (rw [← hs0_]; (repeat (first | exact upd_eq _ _ _ | assumption | refine (upd_ne _ _ _ _ (by omega)).trans ?_ | fail)); done), by first | ((repeat (first | exact upd_eq _ _ _ | assumption | refine (upd_ne _ _ _ _ (by omega)).trans ?_ | fail)); done) | exact tl_eq (by repeat (first | exact upd_eq _ _ _ | assumption | refine (upd_ne _ _ _ _ (by omega)).trans ?_ | fail)) (by first | rfl | (simp [bytesV, beB_len]; done) | (simp [bytesV, beB_len]; omega) | omega) | (rw [← hs0_]; (repeat (first | exact upd_eq _ _ _ | assumption | refine (upd_ne _ _ _ _ (by omega)).trans ?_ | fail)); done), by omega⟩
  · rintro _ _ ⟨j, m0, b0, rfl, rfl, hm0, hf0, hB0_0, hB0_1, hF0_0⟩
    refine runs_know (fun hd0 => ?_)
    refine runs_bump 20 ?_
    simp only at hd0
    have hj_ := cntK_le kp j
    refine runs_seq ?_
    refine runs_seq ?_
    refine runs_region ?_
    refine rl0 (gn rfl) rfl rfl (step_mv rfl rfl) trivial ?_
    refine rl_lss (gn rfl) rfl rfl rfl rfl rfl (fun h11 => ?_) (fun h11 => ?_)
    · skip
      refine runsL_nil ?_
      refine runs_cond true (ev_mk rfl) (fun _ => ?_) (fun h_ => nomatch h_)
      refine runs_skip ?_
      refine runs_seq ?_
      refine runs_block ?_
      refine runs_seq ?_
      refine runs_region ?_
      refine rl0 (gn rfl) rfl rfl (step_mv rfl rfl) trivial ?_
      refine rl0 (gn rfl) rfl rfl (step_mv rfl rfl) trivial ?_
      refine rl0 (gn rfl) rfl rfl (step_len (m := kp.length) rfl rfl (ev_mk rfl) (.inl ⟨⟨_, Try.underlying42⟩, .inl ⟨_, _, .inl rfl, by simp [boolsV]⟩⟩)) trivial ?_
      refine rl_lss (gn rfl) rfl rfl rfl rfl rfl (fun h12 => ?_) (fun h12 => ?_)
      · skip
        refine rl0 (gn rfl) rfl rfl (step_mv rfl rfl) trivial ?_
        refine rl0 (gy rfl rfl rfl rfl rfl rfl) rfl rfl (step_mv rfl rfl) trivial ?_
        refine rl0 (gy rfl rfl rfl rfl rfl rfl) rfl rfl (step_mv rfl rfl) trivial ?_
        refine' rl0 (gy rfl rfl rfl rfl rfl rfl) rfl rfl (step_index rfl (ev_mk rfl) (.inl rfl) (ev_mk rfl) Try.underlying42 F.sz4 (by omega) ?hr) trivial ?_
        case hr => exact map_at _ _ _ (by omega) (by omega)
        refine rl0 (gy rfl rfl rfl rfl rfl rfl) rfl rfl (step_load_ro rfl (ev_mk rfl) F.one4 rfl) trivial ?_
        refine rl0 (gn rfl) rfl rfl (step_pick rfl (ev_mk rfl) (ev_mk rfl)) trivial ?_
        refine runsL_nil ?_
        refine runs_cond _ (ev_mk rfl) (fun h13 => ?_) (fun h13 => ?_)
        · skip
          refine runs_region ?_
          refine rl0 (gn rfl) rfl rfl (step_mv rfl rfl) trivial ?_
          refine rl0 (gn rfl) rfl rfl (step_add rfl (ev_mk rfl) (ev_mk rfl) (w64 (by omega))) trivial ?_
          refine rl0 (gn rfl) rfl rfl (step_as rfl rfl) trivial ?_
          refine runsL_nil ?_
          refine runs_region ?_
          refine rl0 (gn rfl) rfl rfl (step_mv rfl rfl) trivial ?_
          refine rl0 (gn rfl) rfl rfl (step_add rfl (ev_mk rfl) (ev_mk rfl) (w64 (by omega))) trivial ?_
          refine rl0 (gn rfl) rfl rfl (step_as rfl rfl) trivial ?_
          refine runsL_nil ?_
          have hq0_ : (cntK kp j) + 1 = cntK kp (j + 1) := by (simp only [cntK]; first | (rw [kept_g rfl (by omega), if_pos (by assumption)]; done) | (rw [kept_g rfl (by omega), if_neg (Bool.eq_false_iff.1 (by assumption))]; omega) | (rw [kept_f rfl (by omega), if_neg (by simp)]; omega))
          refine ⟨_, _, ?_, sle ?_ (Nat.le_refl _), (j + 1), _, _, rfl, rfl, by omega, (fun k_ hk_ => by repeat (first | exact hf0 k_ hk_ | exact hf1 k_ hk_ | exact hf2 k_ hk_ | exact hf3 k_ hk_ | refine (upd_ne _ _ _ _ (by first | assumption | omega)).trans ?_ | fail)), by first | ((repeat (first | exact upd_eq _ _ _ | assumption | refine (upd_ne _ _ _ _ (by omega)).trans ?_ | fail)); done) | exact tl_eq (by repeat (first | exact upd_eq _ _ _ | assumption | refine (upd_ne _ _ _ _ (by omega)).trans ?_ | fail)) (by first | rfl | (simp [bytesV, beB_len]; done) | (simp [bytesV, beB_len]; omega) | omega) | (rw [← hq0_]; (repeat (first | exact upd_eq _ _ _ | assumption | refine (upd_ne _ _ _ _ (by omega)).trans ?_ | fail)); done), by first | ((repeat (first | exact upd_eq _ _ _ | assumption | refine (upd_ne _ _ _ _ (by omega)).trans ?_ | fail)); done) | exact tl_eq (by repeat (first | exact upd_eq _ _ _ | assumption | refine (upd_ne _ _ _ _ (by omega)).trans ?_ | fail)) (by first | rfl | (simp [bytesV, beB_len]; done) | (simp [bytesV, beB_len]; omega) | omega) | (rw [← hq0_]; (repeat (first | exact upd_eq _ _ _ | assumption | refine (upd_ne _ _ _ _ (by omega)).trans ?_ | fail)); done), by omega⟩
          · omega
          · (repeat' (first | exact trivial | refine ⟨⟨_, rfl, ?_⟩, ?_⟩ | fail)); all_goals (repeat' (first | exact VLe.refl _ | exact VLe.own_sl _ _ _ | exact VLe.fl_sl _ _ | exact VLe.nil_sl _ | exact VLe.nil_fl _ | exact VLes.refl _ | exact .nil | refine VLe.tup ?_ | refine VLe.agg ?_ | refine .cons ?_ ?_ | (rw [Int.natCast_add]; exact VLe.refl _) | exact vle_int (by omega) | exact vle_bool (by first | rfl | assumption | (simp_all; done)) | (rw [← hq0_]; exact VLe.refl _) | (rw [hq0_]; exact VLe.refl _) | fail))
        · skip
          refine runs_skip ?_
          refine runs_region ?_
          refine rl0 (gn rfl) rfl rfl (step_mv rfl rfl) trivial ?_
          refine rl0 (gn rfl) rfl rfl (step_add rfl (ev_mk rfl) (ev_mk rfl) (w64 (by omega))) trivial ?_
          refine rl0 (gn rfl) rfl rfl (step_as rfl rfl) trivial ?_
          refine runsL_nil ?_
          have hq0_ : cntK kp j = cntK kp (j + 1) := by (simp only [cntK]; first | (rw [kept_g rfl (by omega), if_pos (by assumption)]; done) | (rw [kept_g rfl (by omega), if_neg (Bool.eq_false_iff.1 (by assumption))]; omega) | (rw [kept_f rfl (by omega), if_neg (by simp)]; omega))
          refine ⟨_, _, ?_, sle ?_ (Nat.le_refl _), (j + 1), _, _, rfl, rfl, by omega, (fun k_ hk_ => by repeat (first | exact hf0 k_ hk_ | exact hf1 k_ hk_ | exact hf2 k_ hk_ | exact hf3 k_ hk_ | refine (upd_ne _ _ _ _ (by first | assumption | omega)).trans ?_ | fail)), by first | ((repeat (first | exact upd_eq _ _ _ | assumption | refine (upd_ne _ _ _ _ (by omega)).trans ?_ | fail)); done) | exact tl_eq (by repeat (first | exact upd_eq _ _ _ | assumption | refine (upd_ne _ _ _ _ (by omega)).trans ?_ | fail)) (by first | rfl | (simp [bytesV, beB_len]; done) | (simp [bytesV, beB_len]; omega) | omega) | (rw [← hq0_]; (repeat (first | exact upd_eq _ _ _ | assumption | refine (upd_ne _ _ _ _ (by omega)).trans ?_ | fail)); done), by first | ((repeat (first | exact upd_eq _ _ _ | assumption | refine (upd_ne _ _ _ _ (by omega)).trans ?_ | fail)); done) | exact tl_eq (by repeat (first | exact upd_eq _ _ _ | assumption | refine (upd_ne _ _ _ _ (by omega)).trans ?_ | fail)) (by first | rfl | (simp [bytesV, beB_len]; done) | (simp [bytesV, beB_len]; omega) | omega) | (rw [← hq0_]; (repeat (first | exact upd_eq _ _ _ | assumption | refine (upd_ne _ _ _ _ (by omega)).trans ?_ | fail)); done), by omega⟩
          · omega
          · (repeat' (first | exact trivial | refine ⟨⟨_, rfl, ?_⟩, ?_⟩ | fail)); all_goals (repeat' (first | exact VLe.refl _ | exact VLe.own_sl _ _ _ | exact VLe.fl_sl _ _ | exact VLe.nil_sl _ | exact VLe.nil_fl _ | exact VLes.refl _ | exact .nil | refine VLe.tup ?_ | refine VLe.agg ?_ | refine .cons ?_ ?_ | (rw [Int.natCast_add]; exact VLe.refl _) | exact vle_int (by omega) | exact vle_bool (by first | rfl | assumption | (simp_all; done)) | (rw [← hq0_]; exact VLe.refl _) | (rw [hq0_]; exact VLe.refl _) | fail))
      · skip
        refine rl0 (gn rfl) rfl rfl (step_mv rfl rfl) trivial ?_
        refine rlk rfl rfl rfl rfl rfl (ngb rfl rfl) rfl rfl ?_
        refine rlk rfl rfl rfl rfl rfl (ngb rfl rfl) rfl rfl ?_
        refine rlk rfl rfl rfl rfl rfl (ngb rfl rfl) rfl rfl ?_
        refine rlk rfl rfl rfl rfl rfl (ngb rfl rfl) rfl rfl ?_
        refine rl0 (gn rfl) rfl rfl (step_pick rfl (ev_mk rfl) (ev_mk rfl)) trivial ?_
        refine runsL_nil ?_
        refine runs_cond false (ev_mk rfl) (fun h_ => nomatch h_) (fun _ => ?_)
        refine runs_skip ?_
        refine runs_region ?_
        refine rl0 (gn rfl) rfl rfl (step_mv rfl rfl) trivial ?_
        refine rl0 (gn rfl) rfl rfl (step_add rfl (ev_mk rfl) (ev_mk rfl) (w64 (by omega))) trivial ?_
        refine rl0 (gn rfl) rfl rfl (step_as rfl rfl) trivial ?_
        refine runsL_nil ?_
        have hq0_ : cntK kp j = cntK kp (j + 1) := by (simp only [cntK]; first | (rw [kept_g rfl (by omega), if_pos (by assumption)]; done) | (rw [kept_g rfl (by omega), if_neg (Bool.eq_false_iff.1 (by assumption))]; omega) | (rw [kept_f rfl (by omega), if_neg (by simp)]; omega))
        refine ⟨_, _, ?_, sle ?_ (Nat.le_refl _), (j + 1), _, _, rfl, rfl, by omega, (fun k_ hk_ => by repeat (first | exact hf0 k_ hk_ | exact hf1 k_ hk_ | exact hf2 k_ hk_ | exact hf3 k_ hk_ | refine (upd_ne _ _ _ _ (by first | assumption | omega)).trans ?_ | fail)), by first | ((repeat (first | exact upd_eq _ _ _ | assumption | refine (upd_ne _ _ _ _ (by omega)).trans ?_ | fail)); done) | exact tl_eq (by repeat (first | exact upd_eq _ _ _ | assumption | refine (upd_ne _ _ _ _ (by omega)).trans ?_ | fail)) (by first | rfl | (simp [bytesV, beB_len]; done) | (simp [bytesV, beB_len]; omega) | omega) | (rw [← hq0_]; (repeat (first | exact upd_eq _ _ _ | assumption | refine (upd_ne _ _ _ _ (by omega)).trans ?_ | fail)); done), by first | ((repeat (first | exact upd_eq _ _ _ | assumption | refine (upd_ne _ _ _ _ (by omega)).trans ?_ | fail)); done) | exact tl_eq (by repeat (first | exact upd_eq _ _ _ | assumption | refine (upd_ne _ _ _ _ (by omega)).trans ?_ | fail)) (by first | rfl | (simp [bytesV, beB_len]; done) | (simp [bytesV, beB_len]; omega) | omega) | (rw [← hq0_]; (repeat (first | exact upd_eq _ _ _ | assumption | refine (upd_ne _ _ _ _ (by omega)).trans ?_ | fail)); done), by omega⟩
        · omega
        · (repeat' (first | exact trivial | refine ⟨⟨_, rfl, ?_⟩, ?_⟩ | fail)); all_goals (repeat' (first | exact VLe.refl _ | exact VLe.own_sl _ _ _ | exact VLe.fl_sl _ _ | exact VLe.nil_sl _ | exact VLe.nil_fl _ | exact VLes.refl _ | exact .nil | refine VLe.tup ?_ | refine VLe.agg ?_ | refine .cons ?_ ?_ | (rw [Int.natCast_add]; exact VLe.refl _) | exact vle_int (by omega) | exact vle_bool (by first | rfl | assumption | (simp_all; done)) | (rw [← hq0_]; exact VLe.refl _) | (rw [hq0_]; exact VLe.refl _) | fail))
    · skip
      refine runsL_nil ?_
      refine runs_cond false (ev_mk rfl) (fun h_ => nomatch h_) (fun _ => ?_)
      refine runs_exit ?_
      refine runs_seq ?_
      refine runs_region ?_
      refine rl0 (gn rfl) rfl rfl (step_mv rfl rfl) trivial ?_
      refine rl0 (gn rfl) rfl rfl (step_mv rfl rfl) trivial ?_
      refine rl0 (gn rfl) rfl rfl (step_mv rfl rfl) trivial ?_
      refine rl0 (gn rfl) rfl rfl (step_callc rfl Try.func15 rfl rfl rfl (tr_r (n + 0) (n + 1) (by omega) (tS3 b i a m1 c m2 kp) (tS_row b i a m1 c m2 kp).2.2 (tS_len b i a m1 c m2 kp).2.2 (0 + 1 + 1) (by omega) b i hb0 hi0 (tS_bytes b i a m1 c m2 kp ha hc) _ (tear_read hb0 hi0 a m1 c m2 kp) (fillP c 2) (by rw [tL_all a m1 c m2 hcnt]; exact (put_all (fillP_len c 2) hm2).1) (m2) (by rw [tL_all a m1 c m2 hcnt]; exact (put_all (fillP_len c 2) hm2).2.1) true (by rw [tL_all a m1 c m2 hcnt]; exact (put_all (fillP_len c 2) hm2).2.2)) (by repeat (first | exact .nil | refine .cons ?_ ?_ | exact VLe.refl _ | exact VLe.own_sl _ _ _ | exact VLe.fl_sl _ _ | exact VLe.nil_sl _ | exact VLe.nil_fl _ | refine VLe.agg ?_))) ⟨by repeat (first | exact upd_eq _ _ _ | refine (upd_ne _ _ _ _ (by omega)).trans ?_ | assumption | exact hd _ (by omega) | exact hd0 _ (by omega) | exact hd1 _ (by omega) | exact hd2 _ (by omega) | exact hd3 _ (by omega) | fail), by repeat (first | exact upd_eq _ _ _ | refine (upd_ne _ _ _ _ (by omega)).trans ?_ | assumption | exact hd _ (by omega) | exact hd0 _ (by omega) | exact hd1 _ (by omega) | exact hd2 _ (by omega) | exact hd3 _ (by omega) | fail), trivial⟩ ?_
      refine rl0 (gn rfl) rfl rfl (step_mv rfl rfl) trivial ?_
      refine rl0 (gn rfl) rfl rfl (step_extract rfl (ev_mk rfl) rfl) trivial ?_
      refine rl0 (gn rfl) rfl rfl (step_extract rfl (ev_mk rfl) rfl) trivial ?_
      refine rl0 (gn rfl) rfl rfl (step_extract rfl (ev_mk rfl) rfl) trivial ?_
      refine rl0 (gn rfl) rfl rfl (step_extract rfl (ev_mk rfl) rfl) trivial ?_
      refine rl1 (gn rfl) rfl rfl (step_allocc (k := m0 + 0) (zs := (List.replicate 224 (.int .u8 0))) (cs := List.replicate 224 (.sc (.int .u8 0))) rfl F.zero22 (by first | rfl | simp) (by first | rfl | decide | simp) (by first | rfl | simp)) ⟨by repeat (first | exact upd_eq _ _ _ | refine (upd_ne _ _ _ _ (by omega)).trans ?_ | assumption | exact hd _ (by omega) | exact hd0 _ (by omega) | exact hd1 _ (by omega) | exact hd2 _ (by omega) | exact hd3 _ (by omega) | fail), trivial⟩ (by omega) ?_
      refine' rls (gn rfl) rfl (step_storeA rfl rfl rfl rfl F.agg22 ?hm ?hl) ⟨?hb, trivial⟩ ?hk ?_
      case hb => repeat (first | exact upd_eq _ _ _ | refine (upd_ne _ _ _ _ (by omega)).trans ?_ | assumption | exact hd _ (by omega) | exact hd0 _ (by omega) | exact hd1 _ (by omega) | exact hd2 _ (by omega) | exact hd3 _ (by omega) | fail)
      case hm => first | rfl | (simp; done) | (first | (simp; done) | (rw [List.length_map]; exact fillP_len _ _) | (rw [List.length_map]; simp [zP]; done))
      case hl => first | rfl | (simp; done) | (first | (simp; done) | (rw [List.length_map]; exact fillP_len _ _) | (rw [List.length_map]; simp [zP]; done))
      case hk => omega
      refine rl0 (gn rfl) rfl rfl (step_as rfl rfl) trivial ?_
      refine rl0 (gn rfl) rfl rfl (step_as rfl rfl) trivial ?_
      refine rl0 (gn rfl) rfl rfl (step_as rfl rfl) trivial ?_
      refine runsL_nil ?_
      refine runs_seq ?_
      refine runs_region ?_
      refine rl0 (gn rfl) rfl rfl (step_mv rfl rfl) trivial ?_
      refine rl0 (gn rfl) rfl rfl (step_mv rfl rfl) trivial ?_
      refine rl0 (gn rfl) rfl rfl (step_mv rfl rfl) trivial ?_
      refine rl0 (gn rfl) rfl rfl (step_callc rfl Try.func15 rfl rfl rfl (tr_r (n + 0) (n + 1) (by omega) (tS3 b i a m1 c m2 kp) (tS_row b i a m1 c m2 kp).2.2 (tS_len b i a m1 c m2 kp).2.2 (0 + 1 + 1) (by omega) b ((i + 1) % 4) hb0 hyi (tS_bytes b i a m1 c m2 kp ha hc) _ (tear_read9 hb0 hi0 a m1 c m2 kp) (fillP 9 9) (put_all (fillP_len 9 9) (u64_small (by omega))).1 9 (put_all (fillP_len 9 9) (u64_small (by omega))).2.1 true (put_all (fillP_len 9 9) (u64_small (by omega))).2.2) (by repeat (first | exact .nil | refine .cons ?_ ?_ | exact VLe.refl _ | exact VLe.own_sl _ _ _ | exact VLe.fl_sl _ _ | exact VLe.nil_sl _ | exact VLe.nil_fl _ | refine VLe.agg ?_))) ⟨by repeat (first | exact upd_eq _ _ _ | refine (upd_ne _ _ _ _ (by omega)).trans ?_ | assumption | exact hd _ (by omega) | exact hd0 _ (by omega) | exact hd1 _ (by omega) | exact hd2 _ (by omega) | exact hd3 _ (by omega) | fail), by repeat (first | exact upd_eq _ _ _ | refine (upd_ne _ _ _ _ (by omega)).trans ?_ | assumption | exact hd _ (by omega) | exact hd0 _ (by omega) | exact hd1 _ (by omega) | exact hd2 _ (by omega) | exact hd3 _ (by omega) | fail), trivial⟩ ?_
      refine rl0 (gn rfl) rfl rfl (step_mv rfl rfl) trivial ?_
      refine rl0 (gn rfl) rfl rfl (step_extract rfl (ev_mk rfl) rfl) trivial ?_
      refine rl0 (gn rfl) rfl rfl (step_extract rfl (ev_mk rfl) rfl) trivial ?_
      refine rl0 (gn rfl) rfl rfl (step_extract rfl (ev_mk rfl) rfl) trivial ?_
      refine rl0 (gn rfl) rfl rfl (step_extract rfl (ev_mk rfl) rfl) trivial ?_
      refine rl1 (gn rfl) rfl rfl (step_allocc (k := m0 + 1) (zs := (List.replicate 224 (.int .u8 0))) (cs := List.replicate 224 (.sc (.int .u8 0))) rfl F.zero22 (by first | rfl | simp) (by first | rfl | decide | simp) (by first | rfl | simp)) ⟨by repeat (first | exact upd_eq _ _ _ | refine (upd_ne _ _ _ _ (by omega)).trans ?_ | assumption | exact hd _ (by omega) | exact hd0 _ (by omega) | exact hd1 _ (by omega) | exact hd2 _ (by omega) | exact hd3 _ (by omega) | fail), trivial⟩ (by omega) ?_
      refine' rls (gn rfl) rfl (step_storeA rfl rfl rfl rfl F.agg22 ?hm ?hl) ⟨?hb, trivial⟩ ?hk ?_
      case hb => repeat (first | exact upd_eq _ _ _ | refine (upd_ne _ _ _ _ (by omega)).trans ?_ | assumption | exact hd _ (by omega) | exact hd0 _ (by omega) | exact hd1 _ (by omega) | exact hd2 _ (by omega) | exact hd3 _ (by omega) | fail)
      case hm => first | rfl | (simp; done) | (first | (simp; done) | (rw [List.length_map]; exact fillP_len _ _) | (rw [List.length_map]; simp [zP]; done))
      case hl => first | rfl | (simp; done) | (first | (simp; done) | (rw [List.length_map]; exact fillP_len _ _) | (rw [List.length_map]; simp [zP]; done))
      case hk => omega
      refine rl0 (gn rfl) rfl rfl (step_as rfl rfl) trivial ?_
      refine rl0 (gn rfl) rfl rfl (step_as rfl rfl) trivial ?_
      refine rl0 (gn rfl) rfl rfl (step_as rfl rfl) trivial ?_
      refine runsL_nil ?_
      refine runs_seq ?_
      refine runs_seq ?_
      refine runs_draw (by kernel_rfl) (by kernel_rfl) (by kernel_rfl) ?_
      refine dl0 (gn rfl) rfl rfl (step_mv rfl rfl) trivial ?_
      refine dl_neq (gn rfl) rfl rfl rfl rfl rfl (fun h12 => ?_) (fun h12 => ?_)
      · exact False.elim (by omega)
      refine dl0 (gn rfl) rfl rfl (step_mv rfl rfl) trivial ?_
      refine dl0 (gy rfl rfl rfl rfl rfl rfl) rfl rfl (step_mv rfl rfl) trivial ?_
      refine dl_neq (gy rfl rfl rfl rfl rfl rfl) rfl rfl rfl rfl rfl (fun h13 => ?_) (fun h13 => ?_)
      · exact False.elim (by omega)
      refine dl0 (gn rfl) rfl rfl (step_pick rfl (ev_mk rfl) (ev_mk rfl)) trivial ?_
      refine dl0 (gn rfl) rfl rfl (step_mv rfl rfl) trivial ?_
      refine dl0 (gy rfl rfl rfl rfl rfl rfl) rfl rfl (step_mv rfl rfl) trivial ?_
      refine dl0 (gy rfl rfl rfl rfl rfl rfl) rfl rfl (step_unOp (c := .bool false) rfl (ev_mk rfl) (fun _ => rfl)) trivial ?_
      refine dl0 (gn rfl) rfl rfl (step_pick rfl (ev_mk rfl) (ev_mk rfl)) trivial ?_
      refine dl0 (gn rfl) rfl rfl (step_mv rfl rfl) trivial ?_
      refine' dl0 (gy rfl rfl rfl rfl rfl rfl) rfl rfl (step_load_all rfl rfl F.agg22 ?hl) ⟨?hb, trivial⟩ ?_
      case hb => repeat (first | exact upd_eq _ _ _ | refine (upd_ne _ _ _ _ (by omega)).trans ?_ | assumption | exact hd _ (by omega) | exact hd0 _ (by omega) | exact hd1 _ (by omega) | exact hd2 _ (by omega) | exact hd3 _ (by omega) | fail)
      case hl => first | rfl | (simp; done) | (first | (simp; done) | (rw [List.length_map]; exact fillP_len _ _) | (rw [List.length_map]; simp [zP]; done))
      refine dl0 (gy rfl rfl rfl rfl rfl rfl) rfl rfl (step_callc rfl Try.func14 rfl rfl rfl (filled_c 9 9) (by repeat (first | exact .nil | refine .cons ?_ ?_ | exact VLe.refl _ | exact VLe.own_sl _ _ _ | exact VLe.fl_sl _ _ | exact VLe.nil_sl _ | exact VLe.nil_fl _ | refine VLe.agg ?_))) trivial ?_
      refine dl0 (gy rfl rfl rfl rfl rfl rfl) rfl rfl (step_neq22 (q := true) rfl rfl rfl (fillP_len 9 9) (fillP_len 9 9) (decide_eq_true rfl)) trivial ?_
      refine dl0 (gn rfl) rfl rfl (step_pick rfl (ev_mk rfl) (ev_mk rfl)) trivial ?_
      refine dl0 (gn rfl) rfl rfl (step_mv rfl rfl) trivial ?_
      refine dl0 (gy rfl rfl rfl rfl rfl rfl) rfl rfl (step_mv rfl rfl) trivial ?_
      refine dl_neq (gy rfl rfl rfl rfl rfl rfl) rfl rfl rfl rfl rfl (fun h14 => ?_) (fun h14 => ?_)
      · exact False.elim (by omega)
      refine dl0 (gn rfl) rfl rfl (step_pick rfl (ev_mk rfl) (ev_mk rfl)) trivial ?_
      refine dlnil ?_ ?_
      · repeat' (first | exact trivial | exact .inr (ap0 _ _ _ _) | exact .inr (ap2 _ _ _ _) | exact .inr (ap3 _ _ _ _) | exact .inr ⟨by first | (simp; done) | (simp; omega), by first | (simp; done) | (simp; omega)⟩ | exact .inl (by kernel_rfl) | refine ⟨?_, ?_⟩ | fail)
      refine runs_cond false (ev_mk rfl) (fun h_ => nomatch h_) (fun _ => ?_)
      refine runs_skip ?_
      refine runs_seq ?_
      refine runs_seq ?_
      refine runs_region ?_
      refine rl0 (gn rfl) rfl rfl (step_mv rfl rfl) trivial ?_
      refine runsL_nil ?_
      refine runs_block ?_
      refine runs_seq ?_
      refine runs_region ?_
      refine rl_eql (gn rfl) rfl rfl rfl rfl rfl (fun h15 => ?_) (fun h15 => ?_)
      · exact False.elim (by (obtain rfl : j = 4 := by omega); omega)
      refine rl0 (gn rfl) rfl rfl (step_as rfl rfl) trivial ?_
      refine runsL_nil ?_
      refine runs_cond false (ev_mk rfl) (fun h_ => nomatch h_) (fun _ => ?_)
      refine runs_seq ?_
      refine runs_region ?_
      refine rl_eql (gn rfl) rfl rfl rfl rfl rfl (fun h16 => ?_) (fun h16 => ?_)
      rotate_left
      · exact False.elim (by (obtain rfl : j = 4 := by omega); omega)
      refine rl0 (gn rfl) rfl rfl (step_as rfl rfl) trivial ?_
      refine runsL_nil ?_
      refine runs_cond true (ev_mk rfl) (fun _ => ?_) (fun h_ => nomatch h_)
      refine runs_seq ?_
      refine runs_draw (by kernel_rfl) (by kernel_rfl) (by kernel_rfl) ?_
      refine dl0 (gn rfl) rfl rfl (step_mv rfl rfl) trivial ?_
      refine dl0 (gn rfl) rfl rfl (step_mv rfl rfl) trivial ?_
      refine dl0 (gy rfl rfl rfl rfl rfl rfl) rfl rfl (step_mv rfl rfl) trivial ?_
      refine dl0 (gy rfl rfl rfl rfl rfl rfl) rfl rfl (step_mv rfl rfl) trivial ?_
      refine dl_eql (gy rfl rfl rfl rfl rfl rfl) rfl rfl rfl rfl rfl (fun h17 => ?_) (fun h17 => ?_)
      rotate_left
      · exact False.elim (by exact h17 rfl)
      refine dl0 (gn rfl) rfl rfl (step_pick rfl (ev_mk rfl) (ev_mk rfl)) trivial ?_
      refine dl0 (gn rfl) rfl rfl (step_mv rfl rfl) trivial ?_
      refine' dl0 (gy rfl rfl rfl rfl rfl rfl) rfl rfl (step_load_all rfl rfl F.agg22 ?hl) ⟨?hb, trivial⟩ ?_
      case hb => repeat (first | exact upd_eq _ _ _ | refine (upd_ne _ _ _ _ (by omega)).trans ?_ | assumption | exact hd _ (by omega) | exact hd0 _ (by omega) | exact hd1 _ (by omega) | exact hd2 _ (by omega) | exact hd3 _ (by omega) | fail)
      case hl => first | rfl | (simp; done) | (first | (simp; done) | (rw [List.length_map]; exact fillP_len _ _) | (rw [List.length_map]; simp [zP]; done))
      refine dl0 (gy rfl rfl rfl rfl rfl rfl) rfl rfl (step_mv rfl rfl) trivial ?_
      refine dl0 (gy rfl rfl rfl rfl rfl rfl) rfl rfl (step_callc rfl Try.func14 rfl rfl rfl (filled_c c 2) (by repeat (first | exact .nil | refine .cons ?_ ?_ | exact VLe.refl _ | exact VLe.own_sl _ _ _ | exact VLe.fl_sl _ _ | exact VLe.nil_sl _ | exact VLe.nil_fl _ | refine VLe.agg ?_))) trivial ?_
      refine dl0 (gy rfl rfl rfl rfl rfl rfl) rfl rfl (step_eql22 (q := true) rfl rfl rfl (fillP_len c 2) (fillP_len c 2) (decide_eq_true rfl)) trivial ?_
      refine dl0 (gn rfl) rfl rfl (step_pick rfl (ev_mk rfl) (ev_mk rfl)) trivial ?_
      refine dl0 (gn rfl) rfl rfl (step_mv rfl rfl) trivial ?_
      refine dl0 (gy rfl rfl rfl rfl rfl rfl) rfl rfl (step_callc rfl Try.func6 rfl rfl rfl (works_c) (by repeat (first | exact .nil | refine .cons ?_ ?_ | exact VLe.refl _ | exact VLe.own_sl _ _ _ | exact VLe.fl_sl _ _ | exact VLe.nil_sl _ | exact VLe.nil_fl _ | refine VLe.agg ?_))) trivial ?_
      refine dl0 (gn rfl) rfl rfl (step_pick rfl (ev_mk rfl) (ev_mk rfl)) trivial ?_
      refine dl0 (gn rfl) rfl rfl (step_as rfl rfl) trivial ?_
      refine dlnil ?_ ?_
      · repeat' (first | exact trivial | exact .inr (ap0 _ _ _ _) | exact .inr (ap2 _ _ _ _) | exact .inr (ap3 _ _ _ _) | exact .inr ⟨by first | (simp; done) | (simp; omega), by first | (simp; done) | (simp; omega)⟩ | exact .inl (by kernel_rfl) | refine ⟨?_, ?_⟩ | fail)
      refine runs_ret ?_
      refine ⟨by first | exact .inr rfl | exact .inl rfl, fin_mkg (rest rfl res0) ?_ ?_ ?_ ?_ ?_⟩
      · (repeat' (first | exact VLe.refl _ | exact VLe.own_sl _ _ _ | exact VLe.fl_sl _ _ | exact VLe.nil_sl _ | exact VLe.nil_fl _ | exact VLes.refl _ | exact .nil | refine VLe.tup ?_ | refine VLe.agg ?_ | refine .cons ?_ ?_ | (rw [Int.natCast_add]; exact VLe.refl _) | exact vle_int (by omega) | exact vle_bool (by first | rfl | assumption | (simp_all; done)) | fail))
      · repeat (first | exact trivial | assumption | omega | exact bd_bs | exact bd_row | exact bd_secs | exact bd_bools | (refine bdR_map (fun _ => ?_)) | (refine bdL_map (fun _ => ?_)) | refine ⟨?_, ?_⟩ | fail)
      · intro k_ hk_; exact ble (by first | exact rfl | (refine (upd_ne _ _ _ _ (by omega)).trans ?_; first | exact rfl | skip; repeat (first | exact rfl | refine (upd_ne _ _ _ _ (by omega)).trans ?_ | assumption | exact hf0 _ (by omega) | exact hf1 _ (by omega) | exact hf2 _ (by omega) | exact hf3 _ (by omega) | exact hf0 _ (by omega) (by first | assumption | omega) | exact hf1 _ (by omega) (by first | assumption | omega) | exact hf2 _ (by omega) (by first | assumption | omega) | exact hf3 _ (by omega) (by first | assumption | omega) | exact hf0 _ (by omega) (by first | assumption | omega) (by first | assumption | omega) | exact hf1 _ (by omega) (by first | assumption | omega) (by first | assumption | omega) | exact hf2 _ (by omega) (by first | assumption | omega) (by first | assumption | omega) | exact hf3 _ (by omega) (by first | assumption | omega) (by first | assumption | omega))) | exact hf0 _ (by omega) | exact hf1 _ (by omega) | exact hf2 _ (by omega) | exact hf3 _ (by omega) | exact hf0 _ (by omega) (by first | assumption | omega) | exact hf1 _ (by omega) (by first | assumption | omega) | exact hf2 _ (by omega) (by first | assumption | omega) | exact hf3 _ (by omega) (by first | assumption | omega) | exact hf0 _ (by omega) (by first | assumption | omega) (by first | assumption | omega) | exact hf1 _ (by omega) (by first | assumption | omega) (by first | assumption | omega) | exact hf2 _ (by omega) (by first | assumption | omega) (by first | assumption | omega) | exact hf3 _ (by omega) (by first | assumption | omega) (by first | assumption | omega))
      · intro p hp; cases hp
      · repeat (first | exact trivial | assumption | omega | exact bd_bs | exact bd_row | exact bd_secs | exact bd_bools | (refine bdR_map (fun _ => ?_)) | (refine bdL_map (fun _ => ?_)) | refine ⟨?_, ?_⟩ | fail)
set_option maxRecDepth 100000 in
set_option maxHeartbeats 4000000 in
theorem tears_M (b i a c m1 m2 : Int) (kp : List Bool) (hm1 : U64 m1) (hm2 : U64 m2) (hlen : (kp.length : Int) ≤ 9223372036854775807) (ha : 0 ≤ a ∧ a < 256) (hc : 0 ≤ c ∧ c < 256) (hb0 : 0 ≤ b ∧ b ≤ 8) (hi0 : 0 ≤ i ∧ i ≤ 3) (hne : m1 ≠ m2) (hkl : kp.length ≤ 30) (hc0 : cntK kp 4 ≠ 0) (hc4 : cntK kp 4 ≠ 4) : Does Try.prog 5 [.sc (.int .i64 b), .sc (.int .i64 i), .sc (.int .u8 a), .sc (.int .u8 c), .sc (.int .u64 m1), .sc (.int .u64 m2), .sl 1 (boolsV kp)] [] [] (.sc (.bool true)) := by
  refine does_mkg 40 Try.func5 rfl rfl rfl (fun n B bx hd hpre hup hvs hbx hgx => ?_)
  have hyi : 0 ≤ (i + 1) % 4 ∧ (i + 1) % 4 ≤ 3 := by omega
  have hcl := cntK_le kp
  refine runs_seq ?_
  refine runs_region ?_
  refine rl0 (gn rfl) rfl rfl (step_as rfl rfl) trivial ?_
  refine runsL_nil ?_
  refine runs_seq ?_
  refine runs_seq ?_
  refine runs_region ?_
  refine rl0 (gn rfl) rfl rfl (step_mv rfl rfl) trivial ?_
  refine rl_lss (gn rfl) rfl rfl rfl rfl rfl (fun h1 => ?_) (fun h1 => ?_)
  · exact False.elim (by omega)
  refine rl0 (gn rfl) rfl rfl (step_mv rfl rfl) trivial ?_
  refine rl0 (gy rfl rfl rfl rfl rfl rfl) rfl rfl (step_mv rfl rfl) trivial ?_
  refine rl_gtr (gy rfl rfl rfl rfl rfl rfl) rfl rfl rfl rfl rfl (fun h2 => ?_) (fun h2 => ?_)
  · exact False.elim (by omega)
  refine rl0 (gn rfl) rfl rfl (step_pick rfl (ev_mk rfl) (ev_mk rfl)) trivial ?_
  refine rl0 (gn rfl) rfl rfl (step_mv rfl rfl) trivial ?_
  refine rl0 (gy rfl rfl rfl rfl rfl rfl) rfl rfl (step_mv rfl rfl) trivial ?_
  refine rl_lss (gy rfl rfl rfl rfl rfl rfl) rfl rfl rfl rfl rfl (fun h3 => ?_) (fun h3 => ?_)
  · exact False.elim (by omega)
  refine rl0 (gn rfl) rfl rfl (step_pick rfl (ev_mk rfl) (ev_mk rfl)) trivial ?_
  refine rl0 (gn rfl) rfl rfl (step_mv rfl rfl) trivial ?_
  refine rl0 (gy rfl rfl rfl rfl rfl rfl) rfl rfl (step_mv rfl rfl) trivial ?_
  refine rl_gtr (gy rfl rfl rfl rfl rfl rfl) rfl rfl rfl rfl rfl (fun h4 => ?_) (fun h4 => ?_)
  · exact False.elim (by omega)
  refine rl0 (gn rfl) rfl rfl (step_pick rfl (ev_mk rfl) (ev_mk rfl)) trivial ?_
  refine rl0 (gn rfl) rfl rfl (step_mv rfl rfl) trivial ?_
  refine rl0 (gy rfl rfl rfl rfl rfl rfl) rfl rfl (step_mv rfl rfl) trivial ?_
  refine rl0 (gy rfl rfl rfl rfl rfl rfl) rfl rfl (step_mv rfl rfl) trivial ?_
  refine rl_eql (gy rfl rfl rfl rfl rfl rfl) rfl rfl rfl rfl rfl (fun h5 => ?_) (fun h5 => ?_)
  · exact False.elim (by exact hne h5)
  refine rl0 (gn rfl) rfl rfl (step_pick rfl (ev_mk rfl) (ev_mk rfl)) trivial ?_
  refine rl0 (gn rfl) rfl rfl (step_mv rfl rfl) trivial ?_
  refine rl0 (gy rfl rfl rfl rfl rfl rfl) rfl rfl (step_mv rfl rfl) trivial ?_
  refine rl0 (gy rfl rfl rfl rfl rfl rfl) rfl rfl (step_len (m := kp.length) rfl rfl (ev_mk rfl) (.inl ⟨⟨_, Try.underlying42⟩, .inl ⟨_, _, .inl rfl, by simp [boolsV]⟩⟩)) trivial ?_
  refine rl_gtr (gy rfl rfl rfl rfl rfl rfl) rfl rfl rfl rfl rfl (fun h6 => ?_) (fun h6 => ?_)
  · exact False.elim (by omega)
  refine rl0 (gn rfl) rfl rfl (step_pick rfl (ev_mk rfl) (ev_mk rfl)) trivial ?_
  refine runsL_nil ?_
  refine runs_cond false (ev_mk rfl) (fun h_ => nomatch h_) (fun _ => ?_)
  refine runs_skip ?_
  refine runs_seq ?_
  refine runs_region ?_
  refine rl2 (gn rfl) rfl rfl (step_callc rfl Try.func12 rfl rfl rfl (new_ok2 24 (by omega) (by omega) (n + 0) (n + 1) (by omega)) (by repeat (first | exact .nil | refine .cons ?_ ?_ | exact VLe.refl _ | exact VLe.own_sl _ _ _ | exact VLe.fl_sl _ _ | exact VLe.nil_sl _ | exact VLe.nil_fl _ | refine VLe.agg ?_))) ⟨by repeat (first | exact upd_eq _ _ _ | refine (upd_ne _ _ _ _ (by omega)).trans ?_ | assumption | exact hd _ (by omega) | exact hd0 _ (by omega) | exact hd1 _ (by omega) | exact hd2 _ (by omega) | exact hd3 _ (by omega) | fail), by repeat (first | exact upd_eq _ _ _ | refine (upd_ne _ _ _ _ (by omega)).trans ?_ | assumption | exact hd _ (by omega) | exact hd0 _ (by omega) | exact hd1 _ (by omega) | exact hd2 _ (by omega) | exact hd3 _ (by omega) | fail), trivial⟩ (by omega) (by omega) ?_
  refine rl0 (gn rfl) rfl rfl (step_mv rfl rfl) trivial ?_
  refine rl0 (gn rfl) rfl rfl (step_extract rfl (ev_mk rfl) rfl) trivial ?_
  refine rl0 (gn rfl) rfl rfl (step_extract rfl (ev_mk rfl) rfl) trivial ?_
  refine rl0 (gn rfl) rfl rfl (step_as rfl rfl) trivial ?_
  refine rl0 (gn rfl) rfl rfl (step_as rfl rfl) trivial ?_
  refine runsL_nil ?_
  refine runs_seq ?_
  refine runs_seq ?_
  refine runs_region ?_
  refine rl0 (gn rfl) rfl rfl (step_mv rfl rfl) trivial ?_
  refine rl0 (gn rfl) rfl rfl (step_eq_nil (b := false) rfl (ev_mk rfl) (ev_mk rfl) Try.underlying31 ⟨_, .inl ⟨.inl ⟨_, _, rfl⟩, rfl⟩, .inl ⟨rfl, rfl⟩⟩) trivial ?_
  refine rl0 (gn rfl) rfl rfl (step_mv rfl rfl) trivial ?_
  refine rl0 (gy rfl rfl rfl rfl rfl rfl) rfl rfl (step_mv rfl rfl) trivial ?_
  refine rl_neq (gy rfl rfl rfl rfl rfl rfl) rfl rfl rfl rfl rfl (fun h7 => ?_) (fun h7 => ?_)
  · exact False.elim (by omega)
  refine rl0 (gn rfl) rfl rfl (step_pick rfl (ev_mk rfl) (ev_mk rfl)) trivial ?_
  refine runsL_nil ?_
  refine runs_cond false (ev_mk rfl) (fun h_ => nomatch h_) (fun _ => ?_)
  refine runs_skip ?_
  refine runs_seq ?_
  refine runs_region ?_
  refine rl0 (gn rfl) rfl rfl (step_mv rfl rfl) trivial ?_
  refine rl0 (gn rfl) rfl rfl (step_add rfl (ev_mk rfl) (ev_mk rfl) (w64 (by omega))) trivial ?_
  refine rl0 (gn rfl) rfl rfl (step_rem rfl (ev_mk rfl) (ev_mk rfl) (by omega) (by omega)) trivial ?_
  refine rl0 (gn rfl) rfl rfl (step_as rfl rfl) trivial ?_
  refine runsL_nil ?_
  refine runs_seq ?_
  refine runs_seq ?_
  refine runs_region ?_
  refine rl0 (gn rfl) rfl rfl (step_mv rfl rfl) trivial ?_
  refine rl0 (gn rfl) rfl rfl (step_mv rfl rfl) trivial ?_
  refine rl0 (gn rfl) rfl rfl (step_mv rfl rfl) trivial ?_
  refine rl0 (gn rfl) rfl rfl (step_mv rfl rfl) trivial ?_
  refine rl0 (gn rfl) rfl rfl (step_callc rfl Try.func14 rfl rfl rfl (filled_c a 1) (by repeat (first | exact .nil | refine .cons ?_ ?_ | exact VLe.refl _ | exact VLe.own_sl _ _ _ | exact VLe.fl_sl _ _ | exact VLe.nil_sl _ | exact VLe.nil_fl _ | refine VLe.agg ?_))) trivial ?_
  refine rl0 (gn rfl) rfl rfl (step_mv rfl rfl) trivial ?_
  refine rl2 (gn rfl) rfl rfl (step_callc rfl Try.func13 rfl rfl rfl (tr_w (n + 0) (n + 1) (by omega) (zS 24) (zS_row 24) (zS_len 24) 0 (by omega) b i hb0 hi0 (fillP a 1) (fillP_len a 1) m1 hm1) (by repeat (first | exact .nil | refine .cons ?_ ?_ | exact VLe.refl _ | exact VLe.own_sl _ _ _ | exact VLe.fl_sl _ _ | exact VLe.nil_sl _ | exact VLe.nil_fl _ | refine VLe.agg ?_))) ⟨by repeat (first | exact upd_eq _ _ _ | refine (upd_ne _ _ _ _ (by omega)).trans ?_ | assumption | exact hd _ (by omega) | exact hd0 _ (by omega) | exact hd1 _ (by omega) | exact hd2 _ (by omega) | exact hd3 _ (by omega) | fail), by repeat (first | exact upd_eq _ _ _ | refine (upd_ne _ _ _ _ (by omega)).trans ?_ | assumption | exact hd _ (by omega) | exact hd0 _ (by omega) | exact hd1 _ (by omega) | exact hd2 _ (by omega) | exact hd3 _ (by omega) | fail), trivial⟩ (by omega) (by omega) ?_
  refine rl_neq (gn rfl) rfl rfl rfl rfl rfl (fun h8 => ?_) (fun h8 => ?_)
  · exact False.elim (by omega)
  refine rl0 (gn rfl) rfl rfl (step_mv rfl rfl) trivial ?_
  refine rl0 (gy rfl rfl rfl rfl rfl rfl) rfl rfl (step_mv rfl rfl) trivial ?_
  refine rl0 (gy rfl rfl rfl rfl rfl rfl) rfl rfl (step_mv rfl rfl) trivial ?_
  refine rl0 (gy rfl rfl rfl rfl rfl rfl) rfl rfl (step_mv rfl rfl) trivial ?_
  refine rl0 (gy rfl rfl rfl rfl rfl rfl) rfl rfl (step_callc rfl Try.func14 rfl rfl rfl (filled_c 9 9) (by repeat (first | exact .nil | refine .cons ?_ ?_ | exact VLe.refl _ | exact VLe.own_sl _ _ _ | exact VLe.fl_sl _ _ | exact VLe.nil_sl _ | exact VLe.nil_fl _ | refine VLe.agg ?_))) trivial ?_
  refine rl2 (gy rfl rfl rfl rfl rfl rfl) rfl rfl (step_callc rfl Try.func13 rfl rfl rfl (tr_w (n + 0) (n + 1) (by omega) (tS1 b i a m1) (tS_row b i a m1 c m2 kp).1 (tS_len b i a m1 c m2 kp).1 (0 + 1) (by omega) b ((i + 1) % 4) hb0 hyi (fillP 9 9) (fillP_len 9 9) 9 (u64_small (by omega))) (by repeat (first | exact .nil | refine .cons ?_ ?_ | exact VLe.refl _ | exact VLe.own_sl _ _ _ | exact VLe.fl_sl _ _ | exact VLe.nil_sl _ | exact VLe.nil_fl _ | refine VLe.agg ?_))) ⟨by repeat (first | exact upd_eq _ _ _ | refine (upd_ne _ _ _ _ (by omega)).trans ?_ | assumption | exact hd _ (by omega) | exact hd0 _ (by omega) | exact hd1 _ (by omega) | exact hd2 _ (by omega) | exact hd3 _ (by omega) | fail), by repeat (first | exact upd_eq _ _ _ | refine (upd_ne _ _ _ _ (by omega)).trans ?_ | assumption | exact hd _ (by omega) | exact hd0 _ (by omega) | exact hd1 _ (by omega) | exact hd2 _ (by omega) | exact hd3 _ (by omega) | fail), trivial⟩ (by omega) (by omega) ?_
  refine rl_neq (gy rfl rfl rfl rfl rfl rfl) rfl rfl rfl rfl rfl (fun h9 => ?_) (fun h9 => ?_)
  · exact False.elim (by omega)
  refine rl0 (gn rfl) rfl rfl (step_pick rfl (ev_mk rfl) (ev_mk rfl)) trivial ?_
  refine runsL_nil ?_
  refine runs_cond false (ev_mk rfl) (fun h_ => nomatch h_) (fun _ => ?_)
  refine runs_skip ?_
  refine runs_seq ?_
  refine runs_region ?_
  refine rl0 (gn rfl) rfl rfl (step_mv rfl rfl) trivial ?_
  refine rl0 (gn rfl) rfl rfl (step_mv rfl rfl) trivial ?_
  refine rl1 (gn rfl) rfl rfl (step_callc rfl Try.func16 rfl rfl rfl (fuse0_c (n + 0) (n + 1) (tS2 b i a m1) (0 + 1 + 1) (-1) [] false kp (by omega)) (by repeat (first | exact .nil | refine .cons ?_ ?_ | exact VLe.refl _ | exact VLe.own_sl _ _ _ | exact VLe.fl_sl _ _ | exact VLe.nil_sl _ | exact VLe.nil_fl _ | refine VLe.agg ?_))) ⟨by repeat (first | exact upd_eq _ _ _ | refine (upd_ne _ _ _ _ (by omega)).trans ?_ | assumption | exact hd _ (by omega) | exact hd0 _ (by omega) | exact hd1 _ (by omega) | exact hd2 _ (by omega) | exact hd3 _ (by omega) | fail), by repeat (first | exact upd_eq _ _ _ | refine (upd_ne _ _ _ _ (by omega)).trans ?_ | assumption | exact hd _ (by omega) | exact hd0 _ (by omega) | exact hd1 _ (by omega) | exact hd2 _ (by omega) | exact hd3 _ (by omega) | fail), trivial⟩ (by omega) ?_
  refine runsL_nil ?_
  refine runs_seq ?_
  refine runs_seq ?_
  refine runs_region ?_
  refine rl0 (gn rfl) rfl rfl (step_mv rfl rfl) trivial ?_
  refine rl0 (gn rfl) rfl rfl (step_mv rfl rfl) trivial ?_
  refine rl0 (gn rfl) rfl rfl (step_mv rfl rfl) trivial ?_
  refine rl0 (gn rfl) rfl rfl (step_mv rfl rfl) trivial ?_
  refine rl0 (gn rfl) rfl rfl (step_callc rfl Try.func14 rfl rfl rfl (filled_c c 2) (by repeat (first | exact .nil | refine .cons ?_ ?_ | exact VLe.refl _ | exact VLe.own_sl _ _ _ | exact VLe.fl_sl _ _ | exact VLe.nil_sl _ | exact VLe.nil_fl _ | refine VLe.agg ?_))) trivial ?_
  refine rl0 (gn rfl) rfl rfl (step_mv rfl rfl) trivial ?_
  refine rl2 (gn rfl) rfl rfl (step_callc rfl Try.func13 rfl rfl rfl (tr_t (n + 0) (n + 1) (by omega) (tS2 b i a m1) (tS_row b i a m1 c m2 kp).2.1 (tS_len b i a m1 c m2 kp).2.1 (0 + 1 + 1) (by omega) kp (by omega) b i hb0 hi0 (fillP c 2) (fillP_len c 2) m2 hm2) (by repeat (first | exact .nil | refine .cons ?_ ?_ | exact VLe.refl _ | exact VLe.own_sl _ _ _ | exact VLe.fl_sl _ _ | exact VLe.nil_sl _ | exact VLe.nil_fl _ | refine VLe.agg ?_))) ⟨by repeat (first | exact upd_eq _ _ _ | refine (upd_ne _ _ _ _ (by omega)).trans ?_ | assumption | exact hd _ (by omega) | exact hd0 _ (by omega) | exact hd1 _ (by omega) | exact hd2 _ (by omega) | exact hd3 _ (by omega) | fail), by repeat (first | exact upd_eq _ _ _ | refine (upd_ne _ _ _ _ (by omega)).trans ?_ | assumption | exact hd _ (by omega) | exact hd0 _ (by omega) | exact hd1 _ (by omega) | exact hd2 _ (by omega) | exact hd3 _ (by omega) | fail), trivial⟩ (by omega) (by omega) ?_
  refine rl_neq (gn rfl) rfl rfl rfl rfl rfl (fun h10 => ?_) (fun h10 => ?_)
  · exact False.elim (by omega)
  refine runsL_nil ?_
  refine runs_cond false (ev_mk rfl) (fun h_ => nomatch h_) (fun _ => ?_)
  refine runs_skip ?_
  refine runs_seq ?_
  refine runs_region ?_
  refine rl0 (gn rfl) rfl rfl (step_mv rfl rfl) trivial ?_
  refine rl1 (gn rfl) rfl rfl (step_callc rfl Try.func18 rfl rfl rfl (up_c (n + 0) (n + 1) (tS3 b i a m1 c m2 kp) (0 + 1 + 1) 0 kp true) (by repeat (first | exact .nil | refine .cons ?_ ?_ | exact VLe.refl _ | exact VLe.own_sl _ _ _ | exact VLe.fl_sl _ _ | exact VLe.nil_sl _ | exact VLe.nil_fl _ | refine VLe.agg ?_))) ⟨by repeat (first | exact upd_eq _ _ _ | refine (upd_ne _ _ _ _ (by omega)).trans ?_ | assumption | exact hd _ (by omega) | exact hd0 _ (by omega) | exact hd1 _ (by omega) | exact hd2 _ (by omega) | exact hd3 _ (by omega) | fail), by repeat (first | exact upd_eq _ _ _ | refine (upd_ne _ _ _ _ (by omega)).trans ?_ | assumption | exact hd _ (by omega) | exact hd0 _ (by omega) | exact hd1 _ (by omega) | exact hd2 _ (by omega) | exact hd3 _ (by omega) | fail), trivial⟩ (by omega) ?_
  refine runsL_nil ?_
  refine runs_seq ?_
  refine runs_region ?_
  refine rl0 (gn rfl) rfl rfl (step_as rfl rfl) trivial ?_
  refine runsL_nil ?_
  refine runs_seq ?_
  refine runs_seq ?_
  refine runs_region ?_
  refine rl0 (gn rfl) rfl rfl (step_as rfl rfl) trivial ?_
  refine runsL_nil ?_
  refine runs_block ?_
  have hs0_ : 0 = cntK kp 0 := by rfl
  refine runs_loop (fun (ri_ : Nat) (st_ : Go.Vm.S) => ∃ (j : Nat) (m0 : Nat) (b0 : Nat → Box), (st_ = ⟨mk [(0, .sc (.int .i64 b)), (1, .sc (.int .i64 i)), (2, .sc (.int .u8 a)), (3, .sc (.int .u8 c)), (4, .sc (.int .u64 m1)), (5, .sc (.int .u64 m2)), (6, .sl 1 (boolsV kp)), (14, .sc (.bool false)), (15, .ref (n + 0) 0), (17, .sc (.int .i64 ((i + 1) % 4))), (18, .sc (.int .i64 (cntK kp j))), (19, .sc (.int .i64 j))], m0, b0⟩) ∧ (ri_ = 4 - j) ∧ (n + 2 ≤ m0) ∧ (∀ k_, k_ < n → b0 k_ = bx k_) ∧ (b0 (n + 1) = .cells ((tS3 b i a m1 c m2 kp).flatten.map bV)) ∧ (b0 (n + 0) = .cells [.msl (n + 1) 0 ((tS3 b i a m1 c m2 kp)).length ((tS3 b i a m1 c m2 kp)).length 64, .sc (.int .i64 (0 + 1 + 1)), .sc (.int .i64 (-1)), .sl 1 (boolsV ([])), .sc (.bool false)]) ∧ (j ≤ 4)) (4 - 0) ⟨_, sle ?_ (Nat.le_refl _), 0, _, _, rfl, rfl, ?_⟩ ?_
  · (repeat' (first | exact trivial | refine ⟨⟨_, rfl, ?_⟩, ?_⟩ | fail)); all_goals (repeat' (first | exact VLe.refl _ | exact VLe.own_sl _ _ _ | exact VLe.fl_sl _ _ | exact VLe.nil_sl _ | exact VLe.nil_fl _ | exact VLes.refl _ | exact .nil | refine VLe.tup ?_ | refine VLe.agg ?_ | refine .cons ?_ ?_ | (rw [Int.natCast_add]; exact VLe.refl _) | exact vle_int (by omega) | exact vle_bool (by first | rfl | assumption | (simp_all; done)) | (rw [← hs0_]; exact VLe.refl _) | (rw [hs0_]; exact VLe.refl _) | fail))
  · exact ⟨by omega, (fun k_ hk_ => by first | exact rfl | (refine (upd_ne _ _ _ _ (by omega)).trans ?_; first | exact rfl | skip; repeat (first | exact rfl | refine (upd_ne _ _ _ _ (by omega)).trans ?_ | assumption | exact hf0 _ (by omega) | exact hf1 _ (by omega) | exact hf2 _ (by omega) | exact hf3 _ (by omega) | exact hf0 _ (by omega) (by first | assumption | omega) | exact hf1 _ (by omega) (by first | assumption | omega) | exact hf2 _ (by omega) (by first | assumption | omega) | exact hf3 _ (by omega) (by first | assumption | omega) | exact hf0 _ (by omega) (by first | assumption | omega) (by first | assumption | omega) | exact hf1 _ (by omega) (by first | assumption | omega) (by first | assumption | omega) | exact hf2 _ (by omega) (by first | assumption | omega) (by first | assumption | omega) | exact hf3 _ (by omega) (by first | assumption | omega) (by first | assumption | omega))) | exact hf0 _ (by omega) | exact hf1 _ (by omega) | exact hf2 _ (by omega) | exact hf3 _ (by omega) | exact hf0 _ (by omega) (by first | assumption | omega) | exact hf1 _ (by omega) (by first | assumption | omega) | exact hf2 _ (by omega) (by first | assumption | omega) | exact hf3 _ (by omega) (by first | assumption | omega) | exact hf0 _ (by omega) (by first | assumption | omega) (by first | assumption | omega) | exact hf1 _ (by omega) (by first | assumption | omega) (by first | assumption | omega) | exact hf2 _ (by omega) (by first | assumption | omega) (by first | assumption | omega) | exact hf3 _ (by omega) (by first | assumption | omega) (by first | assumption | omega)), by first | ((repeat (first | exact upd_eq _ _ _ | assumption | refine (upd_ne _ _ _ _ (by omega)).trans ?_ | fail)); done) | exact tl_eq (by repeat (first | exact upd_eq _ _ _ | assumption | refine (upd_ne _ _ _ _ (by omega)).trans ?_ | fail)) (by first | rfl | (simp [bytesV, beB_len]; done) | (simp [bytesV, beB_len]; omega) | omega) | (rw [← hs0_]; (repeat (first | exact upd_eq _ _ _ | assumption | refine (upd_ne _ _ _ _ (by omega)).trans ?_ | fail)); done), by first | ((repeat (first | exact upd_eq _ _ _ | assumption | refine (upd_ne _ _ _ _ (by omega)).trans ?_ | fail)); done) | exact tl_eq (by repeat (first | exact upd_eq _ _ _ | assumption | refine (upd_ne _ _ _ _ (by omega)).trans ?_ | fail)) (by first | rfl | (simp [bytesV, beB_len]; done) | (simp [bytesV, beB_len]; omega) | omega) | (rw [← hs0_]; (repeat (first | exact upd_eq _ _ _ | assumption | refine (upd_ne _ _ _ _ (by omega)).trans ?_ | fail)); done), by omega⟩
  · rintro _ _ ⟨j, m0, b0, rfl, rfl, hm0, hf0, hB0_0, hB0_1, hF0_0⟩
    refine runs_know (fun hd0 => ?_)
    refine runs_bump 20 ?_
    simp only at hd0
    have hj_ := cntK_le kp j
    refine runs_seq ?_
    refine runs_seq ?_
    refine runs_region ?_
    refine rl0 (gn rfl) rfl rfl (step_mv rfl rfl) trivial ?_
    refine rl_lss (gn rfl) rfl rfl rfl rfl rfl (fun h11 => ?_) (fun h11 => ?_)
    · skip
      refine runsL_nil ?_
      refine runs_cond true (ev_mk rfl) (fun _ => ?_) (fun h_ => nomatch h_)
      refine runs_skip ?_
      refine runs_seq ?_
      refine runs_block ?_
      refine runs_seq ?_
      refine runs_region ?_
      refine rl0 (gn rfl) rfl rfl (step_mv rfl rfl) trivial ?_
      refine rl0 (gn rfl) rfl rfl (step_mv rfl rfl) trivial ?_
      refine rl0 (gn rfl) rfl rfl (step_len (m := kp.length) rfl rfl (ev_mk rfl) (.inl ⟨⟨_, Try.underlying42⟩, .inl ⟨_, _, .inl rfl, by simp [boolsV]⟩⟩)) trivial ?_
      refine rl_lss (gn rfl) rfl rfl rfl rfl rfl (fun h12 => ?_) (fun h12 => ?_)
      · skip
        refine rl0 (gn rfl) rfl rfl (step_mv rfl rfl) trivial ?_
        refine rl0 (gy rfl rfl rfl rfl rfl rfl) rfl rfl (step_mv rfl rfl) trivial ?_
        refine rl0 (gy rfl rfl rfl rfl rfl rfl) rfl rfl (step_mv rfl rfl) trivial ?_
        refine' rl0 (gy rfl rfl rfl rfl rfl rfl) rfl rfl (step_index rfl (ev_mk rfl) (.inl rfl) (ev_mk rfl) Try.underlying42 F.sz4 (by omega) ?hr) trivial ?_
        case hr => exact map_at _ _ _ (by omega) (by omega)
        refine rl0 (gy rfl rfl rfl rfl rfl rfl) rfl rfl (step_load_ro rfl (ev_mk rfl) F.one4 rfl) trivial ?_
        refine rl0 (gn rfl) rfl rfl (step_pick rfl (ev_mk rfl) (ev_mk rfl)) trivial ?_
        refine runsL_nil ?_
        refine runs_cond _ (ev_mk rfl) (fun h13 => ?_) (fun h13 => ?_)
        · skip
          refine runs_region ?_
          refine rl0 (gn rfl) rfl rfl (step_mv rfl rfl) trivial ?_
          refine rl0 (gn rfl) rfl rfl (step_add rfl (ev_mk rfl) (ev_mk rfl) (w64 (by omega))) trivial ?_
          refine rl0 (gn rfl) rfl rfl (step_as rfl rfl) trivial ?_
          refine runsL_nil ?_
          refine runs_region ?_
          refine rl0 (gn rfl) rfl rfl (step_mv rfl rfl) trivial ?_
          refine rl0 (gn rfl) rfl rfl (step_add rfl (ev_mk rfl) (ev_mk rfl) (w64 (by omega))) trivial ?_
          refine rl0 (gn rfl) rfl rfl (step_as rfl rfl) trivial ?_
          refine runsL_nil ?_
          have hq0_ : (cntK kp j) + 1 = cntK kp (j + 1) := by (simp only [cntK]; first | (rw [kept_g rfl (by omega), if_pos (by assumption)]; done) | (rw [kept_g rfl (by omega), if_neg (Bool.eq_false_iff.1 (by assumption))]; omega) | (rw [kept_f rfl (by omega), if_neg (by simp)]; omega))
          refine ⟨_, _, ?_, sle ?_ (Nat.le_refl _), (j + 1), _, _, rfl, rfl, by omega, (fun k_ hk_ => by repeat (first | exact hf0 k_ hk_ | exact hf1 k_ hk_ | exact hf2 k_ hk_ | exact hf3 k_ hk_ | refine (upd_ne _ _ _ _ (by first | assumption | omega)).trans ?_ | fail)), by first | ((repeat (first | exact upd_eq _ _ _ | assumption | refine (upd_ne _ _ _ _ (by omega)).trans ?_ | fail)); done) | exact tl_eq (by repeat (first | exact upd_eq _ _ _ | assumption | refine (upd_ne _ _ _ _ (by omega)).trans ?_ | fail)) (by first | rfl | (simp [bytesV, beB_len]; done) | (simp [bytesV, beB_len]; omega) | omega) | (rw [← hq0_]; (repeat (first | exact upd_eq _ _ _ | assumption | refine (upd_ne _ _ _ _ (by omega)).trans ?_ | fail)); done), by first | ((repeat (first | exact upd_eq _ _ _ | assumption | refine (upd_ne _ _ _ _ (by omega)).trans ?_ | fail)); done) | exact tl_eq (by repeat (first | exact upd_eq _ _ _ | assumption | refine (upd_ne _ _ _ _ (by omega)).trans ?_ | fail)) (by first | rfl | (simp [bytesV, beB_len]; done) | (simp [bytesV, beB_len]; omega) | omega) | (rw [← hq0_]; (repeat (first | exact upd_eq _ _ _ | assumption | refine (upd_ne _ _ _ _ (by omega)).trans ?_ | fail)); done), by omega⟩
          · omega
          · (repeat' (first | exact trivial | refine ⟨⟨_, rfl, ?_⟩, ?_⟩ | fail)); all_goals (repeat' (first | exact VLe.refl _ | exact VLe.own_sl _ _ _ | exact VLe.fl_sl _ _ | exact VLe.nil_sl _ | exact VLe.nil_fl _ | exact VLes.refl _ | exact .nil | refine VLe.tup ?_ | refine VLe.agg ?_ | refine .cons ?_ ?_ | (rw [Int.natCast_add]; exact VLe.refl _) | exact vle_int (by omega) | exact vle_bool (by first | rfl | assumption | (simp_all; done)) | (rw [← hq0_]; exact VLe.refl _) | (rw [hq0_]; exact VLe.refl _) | fail))
        · skip
          refine runs_skip ?_
          refine runs_region ?_
          refine rl0 (gn rfl) rfl rfl (step_mv rfl rfl) trivial ?_
          refine rl0 (gn rfl) rfl rfl (step_add rfl (ev_mk rfl) (ev_mk rfl) (w64 (by omega))) trivial ?_
          refine rl0 (gn rfl) rfl rfl (step_as rfl rfl) trivial ?_
          refine runsL_nil ?_
          have hq0_ : cntK kp j = cntK kp (j + 1) := by (simp only [cntK]; first | (rw [kept_g rfl (by omega), if_pos (by assumption)]; done) | (rw [kept_g rfl (by omega), if_neg (Bool.eq_false_iff.1 (by assumption))]; omega) | (rw [kept_f rfl (by omega), if_neg (by simp)]; omega))
          refine ⟨_, _, ?_, sle ?_ (Nat.le_refl _), (j + 1), _, _, rfl, rfl, by omega, (fun k_ hk_ => by repeat (first | exact hf0 k_ hk_ | exact hf1 k_ hk_ | exact hf2 k_ hk_ | exact hf3 k_ hk_ | refine (upd_ne _ _ _ _ (by first | assumption | omega)).trans ?_ | fail)), by first | ((repeat (first | exact upd_eq _ _ _ | assumption | refine (upd_ne _ _ _ _ (by omega)).trans ?_ | fail)); done) | exact tl_eq (by repeat (first | exact upd_eq _ _ _ | assumption | refine (upd_ne _ _ _ _ (by omega)).trans ?_ | fail)) (by first | rfl | (simp [bytesV, beB_len]; done) | (simp [bytesV, beB_len]; omega) | omega) | (rw [← hq0_]; (repeat (first | exact upd_eq _ _ _ | assumption | refine (upd_ne _ _ _ _ (by omega)).trans ?_ | fail)); done), by first | ((repeat (first | exact upd_eq _ _ _ | assumption | refine (upd_ne _ _ _ _ (by omega)).trans ?_ | fail)); done) | exact tl_eq (by repeat (first | exact upd_eq _ _ _ | assumption | refine (upd_ne _ _ _ _ (by omega)).trans ?_ | fail)) (by first | rfl | (simp [bytesV, beB_len]; done) | (simp [bytesV, beB_len]; omega) | omega) | (rw [← hq0_]; (repeat (first | exact upd_eq _ _ _ | assumption | refine (upd_ne _ _ _ _ (by omega)).trans ?_ | fail)); done), by omega⟩
          · omega
          · (repeat' (first | exact trivial | refine ⟨⟨_, rfl, ?_⟩, ?_⟩ | fail)); all_goals (repeat' (first | exact VLe.refl _ | exact VLe.own_sl _ _ _ | exact VLe.fl_sl _ _ | exact VLe.nil_sl _ | exact VLe.nil_fl _ | exact VLes.refl _ | exact .nil | refine VLe.tup ?_ | refine VLe.agg ?_ | refine .cons ?_ ?_ | (rw [Int.natCast_add]; exact VLe.refl _) | exact vle_int (by omega) | exact vle_bool (by first | rfl | assumption | (simp_all; done)) | (rw [← hq0_]; exact VLe.refl _) | (rw [hq0_]; exact VLe.refl _) | fail))
      · skip
        refine rl0 (gn rfl) rfl rfl (step_mv rfl rfl) trivial ?_
        refine rlk rfl rfl rfl rfl rfl (ngb rfl rfl) rfl rfl ?_
        refine rlk rfl rfl rfl rfl rfl (ngb rfl rfl) rfl rfl ?_
        refine rlk rfl rfl rfl rfl rfl (ngb rfl rfl) rfl rfl ?_
        refine rlk rfl rfl rfl rfl rfl (ngb rfl rfl) rfl rfl ?_
        refine rl0 (gn rfl) rfl rfl (step_pick rfl (ev_mk rfl) (ev_mk rfl)) trivial ?_
        refine runsL_nil ?_
        refine runs_cond false (ev_mk rfl) (fun h_ => nomatch h_) (fun _ => ?_)
        refine runs_skip ?_
        refine runs_region ?_
        refine rl0 (gn rfl) rfl rfl (step_mv rfl rfl) trivial ?_
        refine rl0 (gn rfl) rfl rfl (step_add rfl (ev_mk rfl) (ev_mk rfl) (w64 (by omega))) trivial ?_
        refine rl0 (gn rfl) rfl rfl (step_as rfl rfl) trivial ?_
        refine runsL_nil ?_
        have hq0_ : cntK kp j = cntK kp (j + 1) := by (simp only [cntK]; first | (rw [kept_g rfl (by omega), if_pos (by assumption)]; done) | (rw [kept_g rfl (by omega), if_neg (Bool.eq_false_iff.1 (by assumption))]; omega) | (rw [kept_f rfl (by omega), if_neg (by simp)]; omega))
        refine ⟨_, _, ?_, sle ?_ (Nat.le_refl _), (j + 1), _, _, rfl, rfl, by omega, (fun k_ hk_ => by repeat (first | exact hf0 k_ hk_ | exact hf1 k_ hk_ | exact hf2 k_ hk_ | exact hf3 k_ hk_ | refine (upd_ne _ _ _ _ (by first | assumption | omega)).trans ?_ | fail)), by first | ((repeat (first | exact upd_eq _ _ _ | assumption | refine (upd_ne _ _ _ _ (by omega)).trans ?_ | fail)); done) | exact tl_eq (by repeat (first | exact upd_eq _ _ _ | assumption | refine (upd_ne _ _ _ _ (by omega)).trans ?_ | fail)) (by first | rfl | (simp [bytesV, beB_len]; done) | (simp [bytesV, beB_len]; omega) | omega) | (rw [← hq0_]; (repeat (first | exact upd_eq _ _ _ | assumption | refine (upd_ne _ _ _ _ (by omega)).trans ?_ | fail)); done), by first | ((repeat (first | exact upd_eq _ _ _ | assumption | refine (upd_ne _ _ _ _ (by omega)).trans ?_ | fail)); done) | exact tl_eq (by repeat (first | exact upd_eq _ _ _ | assumption | refine (upd_ne _ _ _ _ (by omega)).trans ?_ | fail)) (by first | rfl | (simp [bytesV, beB_len]; done) | (simp [bytesV, beB_len]; omega) | omega) | (rw [← hq0_]; (repeat (first | exact upd_eq _ _ _ | assumption | refine (upd_ne _ _ _ _ (by omega)).trans ?_ | fail)); done), by omega⟩
        · omega
        · (repeat' (first | exact trivial | refine ⟨⟨_, rfl, ?_⟩, ?_⟩ | fail)); all_goals (repeat' (first | exact VLe.refl _ | exact VLe.own_sl _ _ _ | exact VLe.fl_sl _ _ | exact VLe.nil_sl _ | exact VLe.nil_fl _ | exact VLes.refl _ | exact .nil | refine VLe.tup ?_ | refine VLe.agg ?_ | refine .cons ?_ ?_ | (rw [Int.natCast_add]; exact VLe.refl _) | exact vle_int (by omega) | exact vle_bool (by first | rfl | assumption | (simp_all; done)) | (rw [← hq0_]; exact VLe.refl _) | (rw [hq0_]; exact VLe.refl _) | fail))
    · skip
      refine runsL_nil ?_
      refine runs_cond false (ev_mk rfl) (fun h_ => nomatch h_) (fun _ => ?_)
      refine runs_exit ?_
      refine runs_seq ?_
      refine runs_region ?_
      refine rl0 (gn rfl) rfl rfl (step_mv rfl rfl) trivial ?_
      refine rl0 (gn rfl) rfl rfl (step_mv rfl rfl) trivial ?_
      refine rl0 (gn rfl) rfl rfl (step_mv rfl rfl) trivial ?_
      refine rl0 (gn rfl) rfl rfl (step_callc rfl Try.func15 rfl rfl rfl (tr_r (n + 0) (n + 1) (by omega) (tS3 b i a m1 c m2 kp) (tS_row b i a m1 c m2 kp).2.2 (tS_len b i a m1 c m2 kp).2.2 (0 + 1 + 1) (by omega) b i hb0 hi0 (tS_bytes b i a m1 c m2 kp ha hc) _ (tear_read hb0 hi0 a m1 c m2 kp) (zP) (tL_zero a c hm1 hm2 hne hc0 hc4).1 (0) (tL_zero a c hm1 hm2 hne hc0 hc4).2 false (tL_torn a c hm1 hm2 hne hc0 hc4)) (by repeat (first | exact .nil | refine .cons ?_ ?_ | exact VLe.refl _ | exact VLe.own_sl _ _ _ | exact VLe.fl_sl _ _ | exact VLe.nil_sl _ | exact VLe.nil_fl _ | refine VLe.agg ?_))) ⟨by repeat (first | exact upd_eq _ _ _ | refine (upd_ne _ _ _ _ (by omega)).trans ?_ | assumption | exact hd _ (by omega) | exact hd0 _ (by omega) | exact hd1 _ (by omega) | exact hd2 _ (by omega) | exact hd3 _ (by omega) | fail), by repeat (first | exact upd_eq _ _ _ | refine (upd_ne _ _ _ _ (by omega)).trans ?_ | assumption | exact hd _ (by omega) | exact hd0 _ (by omega) | exact hd1 _ (by omega) | exact hd2 _ (by omega) | exact hd3 _ (by omega) | fail), trivial⟩ ?_
      refine rl0 (gn rfl) rfl rfl (step_mv rfl rfl) trivial ?_
      refine rl0 (gn rfl) rfl rfl (step_extract rfl (ev_mk rfl) rfl) trivial ?_
      refine rl0 (gn rfl) rfl rfl (step_extract rfl (ev_mk rfl) rfl) trivial ?_
      refine rl0 (gn rfl) rfl rfl (step_extract rfl (ev_mk rfl) rfl) trivial ?_
      refine rl0 (gn rfl) rfl rfl (step_extract rfl (ev_mk rfl) rfl) trivial ?_
      refine rl1 (gn rfl) rfl rfl (step_allocc (k := m0 + 0) (zs := (List.replicate 224 (.int .u8 0))) (cs := List.replicate 224 (.sc (.int .u8 0))) rfl F.zero22 (by first | rfl | simp) (by first | rfl | decide | simp) (by first | rfl | simp)) ⟨by repeat (first | exact upd_eq _ _ _ | refine (upd_ne _ _ _ _ (by omega)).trans ?_ | assumption | exact hd _ (by omega) | exact hd0 _ (by omega) | exact hd1 _ (by omega) | exact hd2 _ (by omega) | exact hd3 _ (by omega) | fail), trivial⟩ (by omega) ?_
      refine' rls (gn rfl) rfl (step_storeA rfl rfl rfl rfl F.agg22 ?hm ?hl) ⟨?hb, trivial⟩ ?hk ?_
      case hb => repeat (first | exact upd_eq _ _ _ | refine (upd_ne _ _ _ _ (by omega)).trans ?_ | assumption | exact hd _ (by omega) | exact hd0 _ (by omega) | exact hd1 _ (by omega) | exact hd2 _ (by omega) | exact hd3 _ (by omega) | fail)
      case hm => first | rfl | (simp; done) | (first | (simp; done) | (rw [List.length_map]; exact fillP_len _ _) | (rw [List.length_map]; simp [zP]; done))
      case hl => first | rfl | (simp; done) | (first | (simp; done) | (rw [List.length_map]; exact fillP_len _ _) | (rw [List.length_map]; simp [zP]; done))
      case hk => omega
      refine rl0 (gn rfl) rfl rfl (step_as rfl rfl) trivial ?_
      refine rl0 (gn rfl) rfl rfl (step_as rfl rfl) trivial ?_
      refine rl0 (gn rfl) rfl rfl (step_as rfl rfl) trivial ?_
      refine runsL_nil ?_
      refine runs_seq ?_
      refine runs_region ?_
      refine rl0 (gn rfl) rfl rfl (step_mv rfl rfl) trivial ?_
      refine rl0 (gn rfl) rfl rfl (step_mv rfl rfl) trivial ?_
      refine rl0 (gn rfl) rfl rfl (step_mv rfl rfl) trivial ?_
      refine rl0 (gn rfl) rfl rfl (step_callc rfl Try.func15 rfl rfl rfl (tr_r (n + 0) (n + 1) (by omega) (tS3 b i a m1 c m2 kp) (tS_row b i a m1 c m2 kp).2.2 (tS_len b i a m1 c m2 kp).2.2 (0 + 1 + 1) (by omega) b ((i + 1) % 4) hb0 hyi (tS_bytes b i a m1 c m2 kp ha hc) _ (tear_read9 hb0 hi0 a m1 c m2 kp) (fillP 9 9) (put_all (fillP_len 9 9) (u64_small (by omega))).1 9 (put_all (fillP_len 9 9) (u64_small (by omega))).2.1 true (put_all (fillP_len 9 9) (u64_small (by omega))).2.2) (by repeat (first | exact .nil | refine .cons ?_ ?_ | exact VLe.refl _ | exact VLe.own_sl _ _ _ | exact VLe.fl_sl _ _ | exact VLe.nil_sl _ | exact VLe.nil_fl _ | refine VLe.agg ?_))) ⟨by repeat (first | exact upd_eq _ _ _ | refine (upd_ne _ _ _ _ (by omega)).trans ?_ | assumption | exact hd _ (by omega) | exact hd0 _ (by omega) | exact hd1 _ (by omega) | exact hd2 _ (by omega) | exact hd3 _ (by omega) | fail), by repeat (first | exact upd_eq _ _ _ | refine (upd_ne _ _ _ _ (by omega)).trans ?_ | assumption | exact hd _ (by omega) | exact hd0 _ (by omega) | exact hd1 _ (by omega) | exact hd2 _ (by omega) | exact hd3 _ (by omega) | fail), trivial⟩ ?_
      refine rl0 (gn rfl) rfl rfl (step_mv rfl rfl) trivial ?_
      refine rl0 (gn rfl) rfl rfl (step_extract rfl (ev_mk rfl) rfl) trivial ?_
      refine rl0 (gn rfl) rfl rfl (step_extract rfl (ev_mk rfl) rfl) trivial ?_
      refine rl0 (gn rfl) rfl rfl (step_extract rfl (ev_mk rfl) rfl) trivial ?_
      refine rl0 (gn rfl) rfl rfl (step_extract rfl (ev_mk rfl) rfl) trivial ?_
      refine rl1 (gn rfl) rfl rfl (step_allocc (k := m0 + 1) (zs := (List.replicate 224 (.int .u8 0))) (cs := List.replicate 224 (.sc (.int .u8 0))) rfl F.zero22 (by first | rfl | simp) (by first | rfl | decide | simp) (by first | rfl | simp)) ⟨by repeat (first | exact upd_eq _ _ _ | refine (upd_ne _ _ _ _ (by omega)).trans ?_ | assumption | exact hd _ (by omega) | exact hd0 _ (by omega) | exact hd1 _ (by omega) | exact hd2 _ (by omega) | exact hd3 _ (by omega) | fail), trivial⟩ (by omega) ?_
      refine' rls (gn rfl) rfl (step_storeA rfl rfl rfl rfl F.agg22 ?hm ?hl) ⟨?hb, trivial⟩ ?hk ?_
      case hb => repeat (first | exact upd_eq _ _ _ | refine (upd_ne _ _ _ _ (by omega)).trans ?_ | assumption | exact hd _ (by omega) | exact hd0 _ (by omega) | exact hd1 _ (by omega) | exact hd2 _ (by omega) | exact hd3 _ (by omega) | fail)
      case hm => first | rfl | (simp; done) | (first | (simp; done) | (rw [List.length_map]; exact fillP_len _ _) | (rw [List.length_map]; simp [zP]; done))
      case hl => first | rfl | (simp; done) | (first | (simp; done) | (rw [List.length_map]; exact fillP_len _ _) | (rw [List.length_map]; simp [zP]; done))
      case hk => omega
      refine rl0 (gn rfl) rfl rfl (step_as rfl rfl) trivial ?_
      refine rl0 (gn rfl) rfl rfl (step_as rfl rfl) trivial ?_
      refine rl0 (gn rfl) rfl rfl (step_as rfl rfl) trivial ?_
      refine runsL_nil ?_
      refine runs_seq ?_
      refine runs_seq ?_
      refine runs_draw (by kernel_rfl) (by kernel_rfl) (by kernel_rfl) ?_
      refine dl0 (gn rfl) rfl rfl (step_mv rfl rfl) trivial ?_
      refine dl_neq (gn rfl) rfl rfl rfl rfl rfl (fun h12 => ?_) (fun h12 => ?_)
      · exact False.elim (by omega)
      refine dl0 (gn rfl) rfl rfl (step_mv rfl rfl) trivial ?_
      refine dl0 (gy rfl rfl rfl rfl rfl rfl) rfl rfl (step_mv rfl rfl) trivial ?_
      refine dl_neq (gy rfl rfl rfl rfl rfl rfl) rfl rfl rfl rfl rfl (fun h13 => ?_) (fun h13 => ?_)
      · exact False.elim (by omega)
      refine dl0 (gn rfl) rfl rfl (step_pick rfl (ev_mk rfl) (ev_mk rfl)) trivial ?_
      refine dl0 (gn rfl) rfl rfl (step_mv rfl rfl) trivial ?_
      refine dl0 (gy rfl rfl rfl rfl rfl rfl) rfl rfl (step_mv rfl rfl) trivial ?_
      refine dl0 (gy rfl rfl rfl rfl rfl rfl) rfl rfl (step_unOp (c := .bool false) rfl (ev_mk rfl) (fun _ => rfl)) trivial ?_
      refine dl0 (gn rfl) rfl rfl (step_pick rfl (ev_mk rfl) (ev_mk rfl)) trivial ?_
      refine dl0 (gn rfl) rfl rfl (step_mv rfl rfl) trivial ?_
      refine' dl0 (gy rfl rfl rfl rfl rfl rfl) rfl rfl (step_load_all rfl rfl F.agg22 ?hl) ⟨?hb, trivial⟩ ?_
      case hb => repeat (first | exact upd_eq _ _ _ | refine (upd_ne _ _ _ _ (by omega)).trans ?_ | assumption | exact hd _ (by omega) | exact hd0 _ (by omega) | exact hd1 _ (by omega) | exact hd2 _ (by omega) | exact hd3 _ (by omega) | fail)
      case hl => first | rfl | (simp; done) | (first | (simp; done) | (rw [List.length_map]; exact fillP_len _ _) | (rw [List.length_map]; simp [zP]; done))
      refine dl0 (gy rfl rfl rfl rfl rfl rfl) rfl rfl (step_callc rfl Try.func14 rfl rfl rfl (filled_c 9 9) (by repeat (first | exact .nil | refine .cons ?_ ?_ | exact VLe.refl _ | exact VLe.own_sl _ _ _ | exact VLe.fl_sl _ _ | exact VLe.nil_sl _ | exact VLe.nil_fl _ | refine VLe.agg ?_))) trivial ?_
      refine dl0 (gy rfl rfl rfl rfl rfl rfl) rfl rfl (step_neq22 (q := true) rfl rfl rfl (fillP_len 9 9) (fillP_len 9 9) (decide_eq_true rfl)) trivial ?_
      refine dl0 (gn rfl) rfl rfl (step_pick rfl (ev_mk rfl) (ev_mk rfl)) trivial ?_
      refine dl0 (gn rfl) rfl rfl (step_mv rfl rfl) trivial ?_
      refine dl0 (gy rfl rfl rfl rfl rfl rfl) rfl rfl (step_mv rfl rfl) trivial ?_
      refine dl_neq (gy rfl rfl rfl rfl rfl rfl) rfl rfl rfl rfl rfl (fun h14 => ?_) (fun h14 => ?_)
      · exact False.elim (by omega)
      refine dl0 (gn rfl) rfl rfl (step_pick rfl (ev_mk rfl) (ev_mk rfl)) trivial ?_
      refine dlnil ?_ ?_
      · repeat' (first | exact trivial | exact .inr (ap0 _ _ _ _) | exact .inr (ap2 _ _ _ _) | exact .inr (ap3 _ _ _ _) | exact .inr ⟨by first | (simp; done) | (simp; omega), by first | (simp; done) | (simp; omega)⟩ | exact .inl (by kernel_rfl) | refine ⟨?_, ?_⟩ | fail)
      refine runs_cond false (ev_mk rfl) (fun h_ => nomatch h_) (fun _ => ?_)
      refine runs_skip ?_
      refine runs_seq ?_
      refine runs_seq ?_
      refine runs_region ?_
      refine rl0 (gn rfl) rfl rfl (step_mv rfl rfl) trivial ?_
      refine runsL_nil ?_
      refine runs_block ?_
      refine runs_seq ?_
      refine runs_region ?_
      refine rl_eql (gn rfl) rfl rfl rfl rfl rfl (fun h15 => ?_) (fun h15 => ?_)
      · exact False.elim (by (obtain rfl : j = 4 := by omega); omega)
      refine rl0 (gn rfl) rfl rfl (step_as rfl rfl) trivial ?_
      refine runsL_nil ?_
      refine runs_cond false (ev_mk rfl) (fun h_ => nomatch h_) (fun _ => ?_)
      refine runs_seq ?_
      refine runs_region ?_
      refine rl_eql (gn rfl) rfl rfl rfl rfl rfl (fun h16 => ?_) (fun h16 => ?_)
      · exact False.elim (by (obtain rfl : j = 4 := by omega); omega)
      refine rl0 (gn rfl) rfl rfl (step_as rfl rfl) trivial ?_
      refine runsL_nil ?_
      refine runs_cond false (ev_mk rfl) (fun h_ => nomatch h_) (fun _ => ?_)
      refine runs_skip ?_
      refine runs_seq ?_
      refine runs_region ?_
      refine rl0 (gn rfl) rfl rfl (step_mv rfl rfl) trivial ?_
      refine rl0 (gn rfl) rfl rfl (step_unOp (c := .bool true) rfl (ev_mk rfl) (fun _ => rfl)) trivial ?_
      refine rl0 (gn rfl) rfl rfl (step_mv rfl rfl) trivial ?_
      refine rl0 (gy rfl rfl rfl rfl rfl rfl) rfl rfl (step_mv rfl rfl) trivial ?_
      refine rl_eql (gy rfl rfl rfl rfl rfl rfl) rfl rfl rfl rfl rfl (fun h17 => ?_) (fun h17 => ?_)
      rotate_left
      · exact False.elim (by omega)
      refine rl0 (gn rfl) rfl rfl (step_pick rfl (ev_mk rfl) (ev_mk rfl)) trivial ?_
      refine rl0 (gn rfl) rfl rfl (step_mv rfl rfl) trivial ?_
      refine' rl0 (gy rfl rfl rfl rfl rfl rfl) rfl rfl (step_load_all rfl rfl F.agg22 ?hl) ⟨?hb, trivial⟩ ?_
      case hb => repeat (first | exact upd_eq _ _ _ | refine (upd_ne _ _ _ _ (by omega)).trans ?_ | assumption | exact hd _ (by omega) | exact hd0 _ (by omega) | exact hd1 _ (by omega) | exact hd2 _ (by omega) | exact hd3 _ (by omega) | fail)
      case hl => first | rfl | (simp; done) | (first | (simp; done) | (rw [List.length_map]; exact fillP_len _ _) | (rw [List.length_map]; simp [zP]; done))
      refine rl0 (gy rfl rfl rfl rfl rfl rfl) rfl rfl (step_callc rfl Try.func19 rfl rfl rfl (blank_c zP (by simp [zP]) true (by simp)) (by repeat (first | exact .nil | refine .cons ?_ ?_ | exact VLe.refl _ | exact VLe.own_sl _ _ _ | exact VLe.fl_sl _ _ | exact VLe.nil_sl _ | exact VLe.nil_fl _ | refine VLe.agg ?_))) trivial ?_
      refine rl0 (gn rfl) rfl rfl (step_pick rfl (ev_mk rfl) (ev_mk rfl)) trivial ?_
      refine rl0 (gn rfl) rfl rfl (step_mv rfl rfl) trivial ?_
      refine rl0 (gy rfl rfl rfl rfl rfl rfl) rfl rfl (step_callc rfl Try.func6 rfl rfl rfl (works_c) (by repeat (first | exact .nil | refine .cons ?_ ?_ | exact VLe.refl _ | exact VLe.own_sl _ _ _ | exact VLe.fl_sl _ _ | exact VLe.nil_sl _ | exact VLe.nil_fl _ | refine VLe.agg ?_))) trivial ?_
      refine rl0 (gn rfl) rfl rfl (step_pick rfl (ev_mk rfl) (ev_mk rfl)) trivial ?_
      refine rl0 (gn rfl) rfl rfl (step_as rfl rfl) trivial ?_
      refine runsL_nil ?_
      refine runs_ret ?_
      refine ⟨by first | exact .inr rfl | exact .inl rfl, fin_mkg (rest rfl res0) ?_ ?_ ?_ ?_ ?_⟩
      · (repeat' (first | exact VLe.refl _ | exact VLe.own_sl _ _ _ | exact VLe.fl_sl _ _ | exact VLe.nil_sl _ | exact VLe.nil_fl _ | exact VLes.refl _ | exact .nil | refine VLe.tup ?_ | refine VLe.agg ?_ | refine .cons ?_ ?_ | (rw [Int.natCast_add]; exact VLe.refl _) | exact vle_int (by omega) | exact vle_bool (by first | rfl | assumption | (simp_all; done)) | fail))
      · repeat (first | exact trivial | assumption | omega | exact bd_bs | exact bd_row | exact bd_secs | exact bd_bools | (refine bdR_map (fun _ => ?_)) | (refine bdL_map (fun _ => ?_)) | refine ⟨?_, ?_⟩ | fail)
      · intro k_ hk_; exact ble (by first | exact rfl | (refine (upd_ne _ _ _ _ (by omega)).trans ?_; first | exact rfl | skip; repeat (first | exact rfl | refine (upd_ne _ _ _ _ (by omega)).trans ?_ | assumption | exact hf0 _ (by omega) | exact hf1 _ (by omega) | exact hf2 _ (by omega) | exact hf3 _ (by omega) | exact hf0 _ (by omega) (by first | assumption | omega) | exact hf1 _ (by omega) (by first | assumption | omega) | exact hf2 _ (by omega) (by first | assumption | omega) | exact hf3 _ (by omega) (by first | assumption | omega) | exact hf0 _ (by omega) (by first | assumption | omega) (by first | assumption | omega) | exact hf1 _ (by omega) (by first | assumption | omega) (by first | assumption | omega) | exact hf2 _ (by omega) (by first | assumption | omega) (by first | assumption | omega) | exact hf3 _ (by omega) (by first | assumption | omega) (by first | assumption | omega))) | exact hf0 _ (by omega) | exact hf1 _ (by omega) | exact hf2 _ (by omega) | exact hf3 _ (by omega) | exact hf0 _ (by omega) (by first | assumption | omega) | exact hf1 _ (by omega) (by first | assumption | omega) | exact hf2 _ (by omega) (by first | assumption | omega) | exact hf3 _ (by omega) (by first | assumption | omega) | exact hf0 _ (by omega) (by first | assumption | omega) (by first | assumption | omega) | exact hf1 _ (by omega) (by first | assumption | omega) (by first | assumption | omega) | exact hf2 _ (by omega) (by first | assumption | omega) (by first | assumption | omega) | exact hf3 _ (by omega) (by first | assumption | omega) (by first | assumption | omega))
      · intro p hp; cases hp
      · repeat (first | exact trivial | assumption | omega | exact bd_bs | exact bd_row | exact bd_secs | exact bd_bools | (refine bdR_map (fun _ => ?_)) | (refine bdL_map (fun _ => ?_)) | refine ⟨?_, ?_⟩ | fail)
end Go.Proofs.Ytdcmcmgbnkolbaa
