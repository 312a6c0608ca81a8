/- Plain facts on the shift register of the checksum: one step is linear and injective, and what bytes, half bytes and bits do to it. No program, no condition. -/
namespace Go.Proofs.Ytfdomnkiikklaaa.Seal

def M (x : BitVec 32) : BitVec 32 := (x >>> 1) ^^^ (if x.getLsbD 0 then 0x82f63b78#32 else 0#32)
def it : Nat → BitVec 32 → BitVec 32
  | 0, x => x
  | j + 1, x => it j (M x)

theorem M_xor (x y : BitVec 32) : M (x ^^^ y) = M x ^^^ M y := by
  unfold M
  rw [BitVec.ushiftRight_xor_distrib, BitVec.getLsbD_xor]
  generalize x >>> 1 = a
  generalize y >>> 1 = b
  cases x.getLsbD 0 <;> cases y.getLsbD 0 <;> simp only [Bool.xor_false, Bool.xor_true, Bool.not_false, Bool.not_true, Bool.false_eq_true, if_true, if_false, BitVec.xor_zero]
  · ac_rfl
  · ac_rfl
  · have : a ^^^ 0x82f63b78#32 ^^^ (b ^^^ 0x82f63b78#32) = (a ^^^ b) ^^^ (0x82f63b78#32 ^^^ 0x82f63b78#32) := by ac_rfl
    rw [this, BitVec.xor_self, BitVec.xor_zero]
theorem M_zero : M 0#32 = 0#32 := by decide
theorem it_xor (j : Nat) : ∀ x y, it j (x ^^^ y) = it j x ^^^ it j y := by
  induction j with
  | zero => intro x y; rfl
  | succ j ih => intro x y; simp only [it, M_xor, ih]
theorem it_zero (j : Nat) : it j 0#32 = 0#32 := by
  induction j with
  | zero => rfl
  | succ j ih => simp only [it, M_zero, ih]
theorem it_add (i j : Nat) : ∀ x, it (i + j) x = it j (it i x) := by
  induction i with
  | zero => intro x; simp [it]
  | succ i ih => intro x; rw [Nat.succ_add]; simp only [it, ih]
theorem M_low (x : BitVec 32) (h : x.getLsbD 0 = false) : M x = x >>> 1 := by
  unfold M; rw [h]; simp
theorem it_low (j : Nat) : ∀ y : BitVec 32, (∀ i, i < j → y.getLsbD i = false) → it j y = y >>> j := by
  induction j with
  | zero => intro y _; simp [it]
  | succ j ih =>
    intro y h
    simp only [it]
    rw [M_low y (h 0 (by omega)), ih _ (fun i hi => by rw [BitVec.getLsbD_ushiftRight]; exact h (1 + i) (by omega)), ← BitVec.shiftRight_add]
    congr 1; omega
theorem M_inj0 (x : BitVec 32) (h : M x = 0#32) : x = 0#32 := by
  unfold M at h
  have h31 : (x >>> 1 ^^^ (if x.getLsbD 0 then 0x82f63b78#32 else 0#32)).getLsbD 31 = false := by rw [h]; rfl
  rw [BitVec.getLsbD_xor, BitVec.getLsbD_ushiftRight, BitVec.getLsbD_of_ge x _ (by omega)] at h31
  cases h0 : x.getLsbD 0
  · rw [h0] at h
    simp only [Bool.false_eq_true, if_false, BitVec.xor_zero] at h
    apply BitVec.eq_of_getLsbD_eq
    intro i hi
    rw [BitVec.getLsbD_zero]
    match i with
    | 0 => exact h0
    | i + 1 =>
      have := congrArg (fun z => z.getLsbD i) h
      simp only [BitVec.getLsbD_ushiftRight, BitVec.getLsbD_zero] at this
      rw [Nat.add_comm]; exact this
  · rw [h0] at h31
    simp at h31
theorem it_inj0 (j : Nat) : ∀ x, it j x = 0#32 → x = 0#32 := by
  induction j with
  | zero => intro x h; exact h
  | succ j ih => intro x h; exact M_inj0 _ (ih _ h)
theorem it_inj (j : Nat) (x y : BitVec 32) (h : it j x = it j y) : x = y := by
  have := it_inj0 j (x ^^^ y) (by rw [it_xor, h, BitVec.xor_self])
  exact BitVec.xor_eq_zero_iff.1 this

theorem mask_bit (j i : Nat) (hj : j ≤ 32) : (BitVec.ofNat 32 (2 ^ j - 1)).getLsbD i = decide (i < j) := by
  rw [BitVec.getLsbD_ofNat, Nat.testBit_two_pow_sub_one]
  by_cases h : i < j
  · simp [h]; omega
  · simp [h]
/-- The low bits go through the register, the others are shifted. -/
theorem it_split (j : Nat) (hj : j ≤ 32) (x : BitVec 32) : it j x = it j (x &&& BitVec.ofNat 32 (2 ^ j - 1)) ^^^ (x >>> j) := by
  have e : x = (x &&& BitVec.ofNat 32 (2 ^ j - 1)) ^^^ (x ^^^ (x &&& BitVec.ofNat 32 (2 ^ j - 1))) := by
    rw [← BitVec.xor_assoc, BitVec.xor_comm _ x, BitVec.xor_assoc, BitVec.xor_self, BitVec.xor_zero]
  conv => lhs; rw [e]
  rw [it_xor]
  congr 1
  rw [it_low j _ (fun i hi => by rw [BitVec.getLsbD_xor, BitVec.getLsbD_and, mask_bit j i hj]; simp [hi])]
  apply BitVec.eq_of_getLsbD_eq
  intro i hi
  rw [BitVec.getLsbD_ushiftRight, BitVec.getLsbD_ushiftRight, BitVec.getLsbD_xor, BitVec.getLsbD_and, mask_bit j _ hj]
  have hz : decide (j + i < j) = false := by simp
  rw [hz, Bool.and_false, Bool.xor_false]

/-- Bits, one by one, of a number. -/
def G : BitVec 32 → Nat → Nat → BitVec 32
  | s, _, 0 => s
  | s, E, j + 1 => G (M (s ^^^ BitVec.ofNat 32 (E % 2))) (E / 2) j
theorem ofNat_xor (a b : Nat) : BitVec.ofNat 32 (a ^^^ b) = BitVec.ofNat 32 a ^^^ BitVec.ofNat 32 b := by
  apply BitVec.eq_of_getLsbD_eq; intro i hi
  rw [BitVec.getLsbD_xor, BitVec.getLsbD_ofNat, BitVec.getLsbD_ofNat, BitVec.getLsbD_ofNat, Nat.testBit_xor]; simp [hi]
theorem G_xor (j : Nat) : ∀ s t E F, G (s ^^^ t) (E ^^^ F) j = G s E j ^^^ G t F j := by
  induction j with
  | zero => intro s t E F; rfl
  | succ j ih =>
    intro s t E F
    simp only [G]
    have e1 : (E ^^^ F) % 2 = (E % 2) ^^^ (F % 2) := by
      have := Nat.xor_mod_two_pow (a := E) (b := F) (n := 1); simpa using this
    have e2 : (E ^^^ F) / 2 = (E / 2) ^^^ (F / 2) := by
      have := Nat.shiftRight_xor_distrib (a := E) (b := F) (i := 1); simpa [Nat.shiftRight_eq_div_pow] using this
    rw [e1, e2, ofNat_xor, ← ih, ← M_xor]
    congr 2
    ac_rfl
theorem G_zero (n : Nat) : ∀ j E, G 0#32 (E * 2 ^ n) (n + j) = G 0#32 E j := by
  induction n with
  | zero => intro j E; simp
  | succ n ih =>
    intro j E
    rw [show n + 1 + j = (n + j) + 1 from by omega]
    simp only [G]
    have e1 : E * 2 ^ (n + 1) % 2 = 0 := by rw [Nat.pow_succ, ← Nat.mul_assoc]; simp
    have e2 : E * 2 ^ (n + 1) / 2 = E * 2 ^ n := by rw [Nat.pow_succ, ← Nat.mul_assoc]; simp
    rw [e1, e2, show 0#32 ^^^ BitVec.ofNat 32 0 = 0#32 from rfl, M_zero, ih]
theorem G_it (j : Nat) : ∀ s E, j ≤ 32 → E < 2 ^ j → G s E j = it j (s ^^^ BitVec.ofNat 32 E) := by
  induction j with
  | zero => intro s E _ h; have : E = 0 := by omega
            subst this; simp [G, it]
  | succ j ih =>
    intro s E hj h
    simp only [G, it]
    rw [ih _ _ (by omega) (by rw [Nat.pow_succ] at h; omega)]
    congr 1
    have e : E = (E % 2) ^^^ (E / 2 * 2) := by
      apply Nat.eq_of_testBit_eq; intro i
      rw [Nat.testBit_xor]
      match i with
      | 0 => simp [Nat.testBit_zero]
      | i + 1 => simp [Nat.testBit_succ, show E % 2 / 2 = 0 from by omega]
    have e0 : (BitVec.ofNat 32 (E / 2 * 2)).getLsbD 0 = false := by
      rw [BitVec.getLsbD_ofNat]; simp [Nat.testBit_zero]
    have e1 : M (BitVec.ofNat 32 (E / 2 * 2)) = BitVec.ofNat 32 (E / 2) := by
      rw [M_low _ e0]
      apply BitVec.eq_of_toNat_eq
      have h32 : E / 2 * 2 < 2 ^ 32 := Nat.lt_of_lt_of_le (by omega) (Nat.pow_le_pow_right (by omega) hj)
      rw [BitVec.toNat_ushiftRight, BitVec.toNat_ofNat, BitVec.toNat_ofNat, Nat.mod_eq_of_lt h32, Nat.mod_eq_of_lt (by omega), Nat.shiftRight_eq_div_pow]
      omega
    conv => rhs; rw [e, ofNat_xor, ← BitVec.xor_assoc, M_xor, e1]
theorem G_more (i : Nat) : ∀ s E j, G s E (i + j) = G (G s E i) (E / 2 ^ i) j := by
  induction i with
  | zero => intro s E j; simp [G]
  | succ i ih =>
    intro s E j
    rw [show i + 1 + j = (i + j) + 1 from by omega]
    simp only [G]
    rw [ih, Nat.div_div_eq_div_mul, Nat.pow_succ, Nat.mul_comm 2]
theorem G_nil (j : Nat) : ∀ s, G s 0 j = it j s := by
  induction j with
  | zero => intro s; rfl
  | succ j ih => intro s; simp only [G, it]; rw [Nat.zero_div, ih]; simp
/-- What lies within 32 bits and is not nothing is never nothing. -/
theorem G_burst (n j E : Nat) (h : E < 2 ^ 32) (hj : 32 ≤ j) (h0 : G 0#32 (E * 2 ^ n) (n + j) = 0#32) : E = 0 := by
  rw [G_zero, show j = 32 + (j - 32) from by omega, G_more, G_it 32 _ _ (Nat.le_refl _) h, Nat.div_eq_of_lt h, G_nil] at h0
  have := it_inj0 _ _ (it_inj0 _ _ h0)
  have h2 := congrArg BitVec.toNat this
  simpa [Nat.mod_eq_of_lt h] using h2
end Go.Proofs.Ytfdomnkiikklaaa.Seal
