/- A logic of values over the model. Part Q: the checksum's shift register. -/
import Derived.Test.YtgfmjipdegkemaaKpVmP
import Derived.Laws.BitsAllLaws
set_option linter.unusedVariables false
set_option linter.unusedSimpArgs false
namespace Go.Vm.Crc
open Go.RowKit
def M (x : BitVec 32) : BitVec 32 := (x >>> 1) ^^^ (if x.getLsbD 0 then 0x82f63b78#32 else 0#32)
def it : Nat → BitVec 32 → BitVec 32
  | 0, x => x
  | j + 1, x => it j (M x)

theorem M_xor (x y : BitVec 32) : M (x ^^^ y) = M x ^^^ M y := by
  unfold M
  rw [BitVec.ushiftRight_xor_distrib, BitVec.getLsbD_xor]
  generalize x >>> 1 = a
  generalize y >>> 1 = b
  cases x.getLsbD 0 <;> cases y.getLsbD 0 <;> simp only [Bool.xor_false, Bool.xor_true, Bool.not_false, Bool.not_true, Bool.false_eq_true, if_true, if_false, BitVec.xor_zero]
  · ac_rfl
  · ac_rfl
  · have : a ^^^ 0x82f63b78#32 ^^^ (b ^^^ 0x82f63b78#32) = (a ^^^ b) ^^^ (0x82f63b78#32 ^^^ 0x82f63b78#32) := by ac_rfl
    rw [this, BitVec.xor_self, BitVec.xor_zero]
theorem it_xor (j : Nat) : ∀ x y, it j (x ^^^ y) = it j x ^^^ it j y := by
  induction j with
  | zero => intro x y; rfl
  | succ j ih => intro x y; simp only [it, M_xor, ih]
theorem it_add (i j : Nat) : ∀ x, it (i + j) x = it j (it i x) := by
  induction i with
  | zero => intro x; simp [it]
  | succ i ih => intro x; rw [Nat.succ_add]; simp only [it, ih]
theorem M_low (x : BitVec 32) (h : x.getLsbD 0 = false) : M x = x >>> 1 := by
  unfold M; rw [h]; simp
theorem it_low (j : Nat) : ∀ y : BitVec 32, (∀ i, i < j → y.getLsbD i = false) → it j y = y >>> j := by
  induction j with
  | zero => intro y _; simp [it]
  | succ j ih =>
    intro y h
    simp only [it]
    rw [M_low y (h 0 (by omega)), ih _ (fun i hi => by rw [BitVec.getLsbD_ushiftRight]; exact h (1 + i) (by omega)), ← BitVec.shiftRight_add]
    congr 1; omega
theorem mask_bit (j i : Nat) (hj : j ≤ 32) : (BitVec.ofNat 32 (2 ^ j - 1)).getLsbD i = decide (i < j) := by
  rw [BitVec.getLsbD_ofNat, Nat.testBit_two_pow_sub_one]
  by_cases h : i < j
  · simp [h]; omega
  · simp [h]
/-- The low bits go through the register, the others are shifted. -/
theorem it_split (j : Nat) (hj : j ≤ 32) (x : BitVec 32) : it j x = it j (x &&& BitVec.ofNat 32 (2 ^ j - 1)) ^^^ (x >>> j) := by
  have e : x = (x &&& BitVec.ofNat 32 (2 ^ j - 1)) ^^^ (x ^^^ (x &&& BitVec.ofNat 32 (2 ^ j - 1))) := by
    rw [← BitVec.xor_assoc, BitVec.xor_comm _ x, BitVec.xor_assoc, BitVec.xor_self, BitVec.xor_zero]
  conv => lhs; rw [e]
  rw [it_xor]
  congr 1
  rw [it_low j _ (fun i hi => by rw [BitVec.getLsbD_xor, BitVec.getLsbD_and, mask_bit j i hj]; simp [hi])]
  apply BitVec.eq_of_getLsbD_eq
  intro i hi
  rw [BitVec.getLsbD_ushiftRight, BitVec.getLsbD_ushiftRight, BitVec.getLsbD_xor, BitVec.getLsbD_and, mask_bit j _ hj]
  have hz : decide (j + i < j) = false := by simp
  rw [hz, Bool.and_false, Bool.xor_false]

/-- Bits, one by one, of a number. -/
def G : BitVec 32 → Nat → Nat → BitVec 32
  | s, _, 0 => s
  | s, E, j + 1 => G (M (s ^^^ BitVec.ofNat 32 (E % 2))) (E / 2) j
theorem ofNat_xor (a b : Nat) : BitVec.ofNat 32 (a ^^^ b) = BitVec.ofNat 32 a ^^^ BitVec.ofNat 32 b := by
  apply BitVec.eq_of_getLsbD_eq; intro i hi
  rw [BitVec.getLsbD_xor, BitVec.getLsbD_ofNat, BitVec.getLsbD_ofNat, BitVec.getLsbD_ofNat, Nat.testBit_xor]; simp [hi]
theorem G_it (j : Nat) : ∀ s E, j ≤ 32 → E < 2 ^ j → G s E j = it j (s ^^^ BitVec.ofNat 32 E) := by
  induction j with
  | zero => intro s E _ h; have : E = 0 := by omega
            subst this; simp [G, it]
  | succ j ih =>
    intro s E hj h
    simp only [G, it]
    rw [ih _ _ (by omega) (by rw [Nat.pow_succ] at h; omega)]
    congr 1
    have e : E = (E % 2) ^^^ (E / 2 * 2) := by
      apply Nat.eq_of_testBit_eq; intro i
      rw [Nat.testBit_xor]
      match i with
      | 0 => simp [Nat.testBit_zero]
      | i + 1 => simp [Nat.testBit_succ, show E % 2 / 2 = 0 from by omega]
    have e0 : (BitVec.ofNat 32 (E / 2 * 2)).getLsbD 0 = false := by
      rw [BitVec.getLsbD_ofNat]; simp [Nat.testBit_zero]
    have e1 : M (BitVec.ofNat 32 (E / 2 * 2)) = BitVec.ofNat 32 (E / 2) := by
      rw [M_low _ e0]
      apply BitVec.eq_of_toNat_eq
      have h32 : E / 2 * 2 < 2 ^ 32 := Nat.lt_of_lt_of_le (by omega) (Nat.pow_le_pow_right (by omega) hj)
      rw [BitVec.toNat_ushiftRight, BitVec.toNat_ofNat, BitVec.toNat_ofNat, Nat.mod_eq_of_lt h32, Nat.mod_eq_of_lt (by omega), Nat.shiftRight_eq_div_pow]
      omega
    conv => rhs; rw [e, ofNat_xor, ← BitVec.xor_assoc, M_xor, e1]
theorem G_more (i : Nat) : ∀ s E j, G s E (i + j) = G (G s E i) (E / 2 ^ i) j := by
  induction i with
  | zero => intro s E j; simp [G]
  | succ i ih =>
    intro s E j
    rw [show i + 1 + j = (i + j) + 1 from by omega]
    simp only [G]
    rw [ih, Nat.div_div_eq_div_mul, Nat.pow_succ, Nat.mul_comm 2]
def nB (v : BitVec 32) : Int := (v.toNat : Int)
theorem n_xor (a b : BitVec 32) : bits .xor .u32 (nB a) (nB b) = nB (a ^^^ b) := by
  rw [nB, nB, u32_xor_nat a.toNat b.toNat a.isLt b.isLt]; simp [nB]
theorem n_and (a b : BitVec 32) : bits .and .u32 (nB a) (nB b) = nB (a &&& b) := by
  rw [nB, nB, u32_and_nat a.toNat b.toNat a.isLt b.isLt]; simp [nB]
theorem n_shr (a : BitVec 32) (k : Nat) : nB a / (2 : Int) ^ k = nB (a >>> k) := by
  simp [nB, BitVec.toNat_ushiftRight, Nat.shiftRight_eq_div_pow]
theorem n_and1 (a : BitVec 32) : bits .and .u32 (nB a) 1 = nB (a &&& 1#32) := n_and a 1#32
theorem n_and15 (a : BitVec 32) : bits .and .u32 (nB a) 15 = nB (a &&& 15#32) := n_and a 15#32
theorem n_poly (a : BitVec 32) : bits .xor .u32 (nB a) 2197175160 = nB (a ^^^ 0x82f63b78#32) := n_xor a 0x82f63b78#32
theorem n_ofNat (c : Nat) (h : c < 4294967296) : nB (BitVec.ofNat 32 c) = c := by simp [nB]; omega
theorem n_bit (v : BitVec 32) : (nB (v &&& 1#32) = 1) ↔ v.getLsbD 0 = true := by
  rw [nB, BitVec.toNat_and, show (1#32).toNat = 1 from rfl, Nat.and_one_is_mod, BitVec.getLsbD, Nat.testBit_zero]
  simp; omega

theorem half_n (r : BitVec 32) (c : Nat) (hc : c < 256) : it 4 ((r ^^^ BitVec.ofNat 32 c) &&& 15#32) ^^^ (r >>> 4) = it 4 (r ^^^ BitVec.ofNat 32 (c % 16)) := by
  rw [it_split 4 (by omega) (r ^^^ BitVec.ofNat 32 (c % 16))]
  have e1 : (r ^^^ BitVec.ofNat 32 c) &&& 15#32 = (r ^^^ BitVec.ofNat 32 (c % 16)) &&& BitVec.ofNat 32 (2 ^ 4 - 1) := by
    apply BitVec.eq_of_getLsbD_eq; intro i hi
    rw [BitVec.getLsbD_and, BitVec.getLsbD_and, mask_bit 4 i (by omega), BitVec.getLsbD_xor, BitVec.getLsbD_xor, BitVec.getLsbD_ofNat, BitVec.getLsbD_ofNat, show (16 : Nat) = 2 ^ 4 from rfl, Nat.testBit_mod_two_pow]
    by_cases h : i < 4 <;> simp [h]
  have e2 : (r ^^^ BitVec.ofNat 32 (c % 16)) >>> 4 = r >>> 4 := by
    rw [BitVec.ushiftRight_xor_distrib]
    have : BitVec.ofNat 32 (c % 16) >>> 4 = 0#32 := by
      apply BitVec.eq_of_toNat_eq
      rw [BitVec.toNat_ushiftRight, BitVec.toNat_ofNat, Nat.shiftRight_eq_div_pow]
      simp; omega
    rw [this, BitVec.xor_zero]
  rw [e1, e2]

theorem byte_n (r : BitVec 32) (c : Nat) (hc : c < 256) : it 4 ((it 4 (r ^^^ BitVec.ofNat 32 (c % 16))) ^^^ BitVec.ofNat 32 (c / 16 % 16)) = G r c 8 := by
  rw [G_it 8 r c (by omega) (by omega), it_add 4 4]
  congr 1
  have h1 : c / 16 % 16 = c / 16 := by omega
  have e : BitVec.ofNat 32 c = BitVec.ofNat 32 (c % 16) ^^^ BitVec.ofNat 32 (c / 16 * 16) := by
    rw [← ofNat_xor]; congr 1
    apply Nat.eq_of_testBit_eq; intro i
    rw [Nat.testBit_xor, show (16 : Nat) = 2 ^ 4 from rfl, Nat.testBit_mod_two_pow, Nat.testBit_mul_two_pow, Nat.testBit_div_two_pow]
    by_cases h : i < 4
    · have h4 : ¬ 4 ≤ i := by omega
      simp [h, h4]
    · have h4 : 4 ≤ i := by omega
      simp [h, h4]
  have hl : it 4 (BitVec.ofNat 32 (c / 16 * 16)) = BitVec.ofNat 32 (c / 16) := by
    rw [it_low 4 _ (fun i hi => by
      rw [BitVec.getLsbD_ofNat, show (16 : Nat) = 2 ^ 4 from rfl, Nat.testBit_mul_two_pow]
      have : ¬ 4 ≤ i := by omega
      simp [this])]
    apply BitVec.eq_of_toNat_eq
    rw [BitVec.toNat_ushiftRight, BitVec.toNat_ofNat, BitVec.toNat_ofNat, Nat.shiftRight_eq_div_pow, Nat.mod_eq_of_lt (by omega), Nat.mod_eq_of_lt (by omega)]
    omega
  rw [h1, e, ← BitVec.xor_assoc, it_xor 4 (r ^^^ BitVec.ofNat 32 (c % 16)), hl]


theorem G_one (s : BitVec 32) (E m : Nat) : G s E (m + 1) = M (G s E m ^^^ BitVec.ofNat 32 (E / 2 ^ m % 2)) := by
  rw [G_more]; rfl
/-- The register behind bytes; the sum. -/
def crcF (s : BitVec 32) (l : List Int) : BitVec 32 := l.foldl (fun s c => G s c.toNat 8) s
def crcV (l : List Int) : BitVec 32 := ~~~ (crcF (~~~ 0#32) l)
theorem crcF_snoc (s : BitVec 32) (l : List Int) (c : Int) : crcF s (l ++ [c]) = G (crcF s l) c.toNat 8 := by simp [crcF]
theorem crcF_take {s : BitVec 32} {b : List Int} {j : Nat} (h : j < b.length) : crcF s (b.take (j + 1)) = G (crcF s (b.take j)) (at' b (j : Int)).toNat 8 := by
  rw [at_nat _ _ h, List.take_add_one, List.getElem?_eq_getElem h]; exact crcF_snoc _ _ _
theorem n_lt (c : BitVec 32) : 0 ≤ nB c ∧ nB c < 4294967296 := by
  have := c.isLt; simp [nB]; omega
theorem n_not (v : BitVec 32) : bits .xor .u32 IntKind.u32.max (nB v) = nB (~~~ v) := by
  rw [show IntKind.u32.max = nB (BitVec.allOnes 32) from by kernel_rfl, n_xor, BitVec.allOnes_xor]
theorem n_not' (v : BitVec 32) : (4294967295 : Int) - nB v = nB (~~~ v) := by
  have := v.isLt
  simp [nB, BitVec.toNat_not]; omega
/-- The four bytes of a sum, the lowest one first. -/
def q4 (c : BitVec 32) : List Int := [nB c % 256, nB c / 256 % 256, nB c / 65536 % 256, nB c / 16777216 % 256]
theorem q4_byts (c : BitVec 32) : Byts (q4 c) := by
  intro x hx; simp [q4] at hx; omega
theorem q4_len (c : BitVec 32) : (q4 c).length = 4 := rfl
def sealB (b : List Int) : List Int := b ++ q4 (crcV b)
theorem sealB_len (b : List Int) : (sealB b).length = b.length + 4 := by simp [sealB, q4_len]
theorem sealB_byts {b : List Int} (h : Byts b) : Byts (sealB b) := bytes_app h (q4_byts _)
/-- What is got of bytes. -/
def sealOK (b : List Int) : Bool := decide (4 ≤ b.length ∧ b.drop (b.length - 4) = q4 (crcV (b.take (b.length - 4))))
def sealG (b : List Int) : List Int := if sealOK b = true then b.take (b.length - 4) else []
theorem sealOK_put (b : List Int) : sealOK (sealB b) = true := by
  refine decide_eq_true ?_
  rw [sealB_len, Nat.add_sub_cancel]
  exact ⟨by omega, by unfold sealB; rw [List.drop_left, List.take_left]⟩
theorem sealG_put (b : List Int) : sealG (sealB b) = b := by
  rw [sealG, if_pos (sealOK_put b), sealB_len, Nat.add_sub_cancel]; unfold sealB; rw [List.take_left]
theorem sealG_byts {b : List Int} (h : Byts b) : Byts (sealG b) := by
  unfold sealG; split
  · exact bytes_take h _
  · exact bytes_nil
theorem sealG_len (b : List Int) : (sealG b).length ≤ b.length := by
  unfold sealG; split
  · simp
  · simp
theorem drop4 {l : List Int} (h : 4 ≤ l.length) : l.drop (l.length - 4) = [at' l ((l.length : Int) - 4), at' l ((l.length : Int) - 4 + 1), at' l ((l.length : Int) - 4 + 2), at' l ((l.length : Int) - 4 + 3)] := by
  obtain ⟨m, hm⟩ : ∃ m, l.length = m + 4 := ⟨l.length - 4, by omega⟩
  have e : ∀ j : Nat, (hj : m + j < l.length) → at' l (((l.length : Nat) : Int) - 4 + j) = l[m + j] := by
    intro j hj
    rw [show ((l.length : Nat) : Int) - 4 + j = ((m + j : Nat) : Int) by omega, at_nat _ _ hj]
  rw [show l.length - 4 = m by omega, List.drop_eq_getElem_cons (by omega), List.drop_eq_getElem_cons (by omega), List.drop_eq_getElem_cons (by omega), List.drop_eq_getElem_cons (by omega), List.drop_of_length_le (by omega)]
  have e0 := e 0 (by omega)
  rw [show ((l.length : Nat) : Int) - 4 + (0 : Nat) = (l.length : Int) - 4 by omega] at e0
  have e1 := e 1 (by omega)
  have e2 := e 2 (by omega)
  have e3 := e 3 (by omega)
  simp only [Int.natCast_one, Int.cast_ofNat_Int] at e1 e2 e3
  rw [e0, show ((l.length : Int) - 4 + 1) = ((l.length : Nat) : Int) - 4 + (1 : Nat) by omega, e 1 (by omega), show ((l.length : Int) - 4 + 2) = ((l.length : Nat) : Int) - 4 + (2 : Nat) by omega, e 2 (by omega), show ((l.length : Int) - 4 + 3) = ((l.length : Nat) : Int) - 4 + (3 : Nat) by omega, e 3 (by omega)]
  rfl
end Go.Vm.Crc
