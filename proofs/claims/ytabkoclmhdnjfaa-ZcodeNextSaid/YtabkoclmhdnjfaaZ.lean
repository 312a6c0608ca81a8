/- Places of points over plain numbers: every other bit, by turns, there and back, and who comes ahead. No condition but the sizes that the theorems name. -/
namespace Go.Proofs.Ytabkoclmhdnjfaa.Z

def sp : Nat → Nat → Nat
  | 0, _ => 0
  | k + 1, x => x % 2 + 4 * sp k (x / 2)
def ga : Nat → Nat → Nat
  | 0, _ => 0
  | k + 1, z => z % 2 + 2 * ga k (z / 4)
def zc (k x y : Nat) : Nat := sp k x + 2 * sp k y

theorem sp_bit (k : Nat) : ∀ x j, (sp k x).testBit j = (decide (j % 2 = 0) && (decide (j < 2 * k) && x.testBit (j / 2))) := by
  induction k with
  | zero => intro x j; simp [sp]
  | succ k ih =>
    intro x j
    rw [sp]
    match j with
    | 0 =>
      have : (x % 2 + 4 * sp k (x / 2)) % 2 = x % 2 := by omega
      simp [Nat.testBit_zero, this]
    | 1 =>
      have : (x % 2 + 4 * sp k (x / 2)) / 2 % 2 = 0 := by omega
      rw [Nat.testBit_succ, Nat.testBit_zero, this]; simp
    | j + 2 =>
      have : (x % 2 + 4 * sp k (x / 2)) / 2 / 2 = sp k (x / 2) := by omega
      rw [Nat.testBit_succ, Nat.testBit_succ, this, ih]
      have e1 : (j + 2) % 2 = j % 2 := by omega
      have e2 : (j + 2) / 2 = j / 2 + 1 := by omega
      rw [e1, e2, Nat.testBit_succ]
      congr 2
      simp only [decide_eq_decide]; omega
theorem ga_bit (k : Nat) : ∀ z j, (ga k z).testBit j = (decide (j < k) && z.testBit (2 * j)) := by
  induction k with
  | zero => intro z j; simp [ga]
  | succ k ih =>
    intro z j
    rw [ga]
    match j with
    | 0 =>
      have : (z % 2 + 2 * ga k (z / 4)) % 2 = z % 2 := by omega
      simp [Nat.testBit_zero, this]
    | j + 1 =>
      have : (z % 2 + 2 * ga k (z / 4)) / 2 = ga k (z / 4) := by omega
      rw [Nat.testBit_succ, this, ih]
      have e1 : 2 * (j + 1) = 2 * j + 1 + 1 := by omega
      have e2 : z / 4 = z / 2 / 2 := by omega
      rw [e1, Nat.testBit_succ, Nat.testBit_succ, e2]
      congr 1
      simp only [decide_eq_decide]; omega

/-- A number got from one by shifts, or and masks. -/
inductive E
  | x (n : Nat)
  | shl (e : E) (s : Nat)
  | shr (e : E) (s : Nat)
  | or (a b : E)
  | and (e : E) (m : Nat)
def E.den (v : Nat) : E → Nat
  | .x n => v
  | .shl e s => e.den v <<< s
  | .shr e s => e.den v >>> s
  | .or a b => a.den v ||| b.den v
  | .and e m => e.den v &&& m
/-- Which bits of the first number a bit is the or of. -/
def E.src : E → Nat → List Nat
  | .x n, j => if j < n then [j] else []
  | .shl e s, j => if j < s then [] else e.src (j - s)
  | .shr e s, j => e.src (s + j)
  | .or a b, j => a.src j ++ b.src j
  | .and e m, j => if m.testBit j then e.src j else []
def E.fit (v : Nat) : E → Prop
  | .x n => v < 2 ^ n
  | .shl e _ => e.fit v
  | .shr e _ => e.fit v
  | .or a b => a.fit v ∧ b.fit v
  | .and e _ => e.fit v
theorem E.bit (v : Nat) : ∀ (e : E) (j : Nat), e.fit v → (e.den v).testBit j = (e.src j).any fun i => v.testBit i
  | .x n, j, h => by
    simp only [E.fit] at h
    simp only [E.den, E.src]
    by_cases hj : j < n
    · simp [hj]
    · rw [if_neg hj]
      simp only [List.any_nil]
      exact Nat.testBit_lt_two_pow (Nat.lt_of_lt_of_le h (Nat.pow_le_pow_right (by omega) (by omega)))
  | .shl e s, j, h => by
    simp only [E.den, E.src, Nat.testBit_shiftLeft]
    by_cases hj : j < s
    · have : ¬ s ≤ j := by omega
      simp [hj, this]
    · have : s ≤ j := by omega
      simp [hj, this, E.bit v e (j - s) h]
  | .shr e s, j, h => by simp only [E.den, E.src, Nat.testBit_shiftRight, E.bit v e (s + j) h]
  | .or a b, j, h => by simp only [E.den, E.src, Nat.testBit_or, E.bit v a j h.1, E.bit v b j h.2, List.any_append]
  | .and e m, j, h => by
    simp only [E.den, E.src, Nat.testBit_and, E.bit v e j h]
    cases m.testBit j <;> simp

def mul (e : E) (s : Nat) : E := .and (.shl e s) 18446744073709551615
def spreadE : E :=
  let a : E := .x 32
  let a : E := .and (.or a (mul a 16)) 281470681808895
  let a : E := .and (.or a (mul a 8)) 71777214294589695
  let a : E := .and (.or a (mul a 4)) 1085102592571150095
  let a : E := .and (.or a (mul a 2)) 3689348814741910323
  .and (.or a (mul a 1)) 6148914691236517205
def gatherE : E :=
  let a : E := .and (.x 64) 6148914691236517205
  let a : E := .and (.or a (.shr a 1)) 3689348814741910323
  let a : E := .and (.or a (.shr a 2)) 1085102592571150095
  let a : E := .and (.or a (.shr a 4)) 71777214294589695
  let a : E := .and (.or a (.shr a 8)) 281470681808895
  .and (.and (.or a (.shr a 16)) 4294967295) 4294967295
theorem spread_src : ∀ j, j < 64 → spreadE.src j = if j % 2 = 0 then [j / 2] else [] := by decide +kernel
theorem gather_src : ∀ j, j < 64 → gatherE.src j = if j < 32 then [2 * j] else [] := by decide +kernel
theorem spread_den (x : Nat) (hx : x < 4294967296) : spreadE.den x = sp 32 x := by
  apply Nat.eq_of_testBit_eq
  intro j
  rw [sp_bit]
  by_cases hj : j < 64
  · rw [E.bit x spreadE j (by simp [spreadE, E.fit, mul]; exact hx), spread_src j hj]
    by_cases h2 : j % 2 = 0
    · simp [h2]; omega
    · simp [h2]
  · have h1 : spreadE.den x < 2 ^ 64 := Nat.lt_of_le_of_lt (Nat.and_le_right) (by decide)
    rw [Nat.testBit_lt_two_pow (Nat.lt_of_lt_of_le h1 (Nat.pow_le_pow_right (by omega) (by omega)))]
    have : ¬ j < 2 * 32 := by omega
    simp [this]
theorem gather_den (z : Nat) (hz : z < 18446744073709551616) : gatherE.den z = ga 32 z := by
  apply Nat.eq_of_testBit_eq
  intro j
  rw [ga_bit]
  by_cases hj : j < 64
  · rw [E.bit z gatherE j (by simp [gatherE, E.fit]; exact hz), gather_src j hj]
    by_cases h2 : j < 32
    · simp [h2]
    · simp [h2]
  · have h1 : gatherE.den z < 2 ^ 64 := Nat.lt_of_le_of_lt (Nat.and_le_right) (by decide)
    rw [Nat.testBit_lt_two_pow (Nat.lt_of_lt_of_le h1 (Nat.pow_le_pow_right (by omega) (by omega)))]
    have : ¬ j < 32 := by omega
    simp [this]

/-! there and back -/
theorem zc_succ (k x y : Nat) : zc (k + 1) x y = 4 * zc k (x / 2) (y / 2) + 2 * (y % 2) + x % 2 := by
  simp only [zc, sp]; omega
theorem ga_zc (k : Nat) : ∀ x y, ga k (zc k x y) = x % 2 ^ k := by
  induction k with
  | zero => intro x y; simp [ga, Nat.mod_one]
  | succ k ih =>
    intro x y
    have e1 : zc (k + 1) x y % 2 = x % 2 := by rw [zc_succ]; omega
    have e2 : zc (k + 1) x y / 4 = zc k (x / 2) (y / 2) := by rw [zc_succ]; omega
    rw [ga, e1, e2, ih, Nat.pow_succ, Nat.mul_comm (2 ^ k) 2, Nat.mod_mul]
theorem ga_zc' (k : Nat) : ∀ x y, ga k (zc k x y / 2) = y % 2 ^ k := by
  induction k with
  | zero => intro x y; simp [ga, Nat.mod_one]
  | succ k ih =>
    intro x y
    have e1 : zc (k + 1) x y / 2 % 2 = y % 2 := by rw [zc_succ]; omega
    have e2 : zc (k + 1) x y / 2 / 4 = zc k (x / 2) (y / 2) / 2 := by rw [zc_succ]; omega
    rw [ga, e1, e2, ih, Nat.pow_succ, Nat.mul_comm (2 ^ k) 2, Nat.mod_mul]
theorem zc_ga (k : Nat) : ∀ z, z < 4 ^ k → zc k (ga k z) (ga k (z / 2)) = z := by
  induction k with
  | zero => intro z hz; simp [zc, sp] at *; omega
  | succ k ih =>
    intro z hz
    have h4 : z / 4 < 4 ^ k := by rw [Nat.pow_succ] at hz; omega
    rw [zc_succ, ga, ga]
    have e1 : (z % 2 + 2 * ga k (z / 4)) / 2 = ga k (z / 4) := by omega
    have e2 : (z / 2 % 2 + 2 * ga k (z / 2 / 4)) / 2 = ga k (z / 4 / 2) := by
      have : z / 2 / 4 = z / 4 / 2 := by omega
      rw [this]; omega
    rw [e1, e2, ih _ h4]
    omega
theorem sp_lt (k : Nat) : ∀ x, 3 * sp k x < 4 ^ k := by
  induction k with
  | zero => intro x; simp [sp]
  | succ k ih => intro x; have := ih (x / 2); rw [sp, Nat.pow_succ]; omega
theorem zc_lt (k x y : Nat) : zc k x y < 4 ^ k := by
  have := sp_lt k x
  have := sp_lt k y
  simp only [zc]; omega
theorem ga_lt (k : Nat) : ∀ z, ga k z < 2 ^ k := by
  induction k with
  | zero => intro x; simp [ga]
  | succ k ih => intro x; have := ih (x / 4); rw [ga, Nat.pow_succ]; omega
theorem sp_mono (k : Nat) : ∀ x y, x ≤ y → y < 2 ^ k → sp k x ≤ sp k y ∧ (x < y → sp k x < sp k y) := by
  induction k with
  | zero => intro x y h h2; simp [sp] at *; omega
  | succ k ih =>
    intro x y h h2
    have := ih (x / 2) (y / 2) (by omega) (by rw [Nat.pow_succ] at h2; omega)
    rw [sp, sp]
    refine ⟨?_, fun h3 => ?_⟩
    · by_cases e : x / 2 = y / 2
      · rw [e]; omega
      · have := this.2 (by omega); omega
    · by_cases e : x / 2 = y / 2
      · rw [e]; omega
      · have := this.2 (by omega); omega
theorem zc_mono (k x y u v : Nat) (h1 : x ≤ u) (h2 : y ≤ v) (hu : u < 2 ^ k) (hv : v < 2 ^ k) : zc k x y ≤ zc k u v := by
  have := sp_mono k x u h1 hu
  have := sp_mono k y v h2 hv
  simp only [zc]; omega

theorem zc_bit : ∀ (k a b j : Nat), (zc k a b).testBit j = (decide (j < 2 * k) && if j % 2 = 0 then a.testBit (j / 2) else b.testBit (j / 2)) := by
  intro k
  induction k with
  | zero => intro a b j; simp [zc, sp]
  | succ k ih =>
    intro a b j
    rw [zc_succ]
    match j with
    | 0 =>
      have : (4 * zc k (a / 2) (b / 2) + 2 * (b % 2) + a % 2) % 2 = a % 2 := by omega
      simp [Nat.testBit_zero, this]
    | 1 =>
      have : (4 * zc k (a / 2) (b / 2) + 2 * (b % 2) + a % 2) / 2 % 2 = b % 2 := by omega
      rw [Nat.testBit_succ, Nat.testBit_zero, this]
      have : 1 < 2 * (k + 1) := by omega
      simp [Nat.testBit_zero, this]
    | j + 2 =>
      have : (4 * zc k (a / 2) (b / 2) + 2 * (b % 2) + a % 2) / 2 / 2 = zc k (a / 2) (b / 2) := by omega
      rw [Nat.testBit_succ, Nat.testBit_succ, this, ih]
      have e1 : (j + 2) % 2 = j % 2 := by omega
      have e2 : (j + 2) / 2 = j / 2 + 1 := by omega
      rw [e1, e2, Nat.testBit_succ, Nat.testBit_succ]
      congr 1
      simp only [decide_eq_decide]; omega
theorem or_sp (k a b : Nat) : sp k a ||| sp k b * 2 = zc k a b := by
  apply Nat.eq_of_testBit_eq
  intro j
  rw [zc_bit, Nat.testBit_or, sp_bit, Nat.mul_comm (sp k b) 2]
  match j with
  | 0 => simp [Nat.testBit_zero]
  | j + 1 =>
    have : 2 * sp k b / 2 = sp k b := by omega
    rw [Nat.testBit_succ, this, sp_bit]
    rcases Nat.mod_two_eq_zero_or_one j with hj | hj
    · have e1 : (j + 1) % 2 = 1 := by omega
      have e2 : (j + 1) / 2 = j / 2 := by omega
      simp only [hj, e1, e2]
      have : (j < 2 * k) ↔ (j + 1 < 2 * k) := by omega
      simp [this]
    · have e1 : (j + 1) % 2 = 0 := by omega
      simp [hj, e1]

/-! who comes ahead -/
theorem xor_half (a b : Nat) : (a ^^^ b) / 2 = a / 2 ^^^ b / 2 := by
  have := Nat.xor_div_two (a := a) (b := b); exact this
theorem xor_low (a b : Nat) : (a ^^^ b) % 2 = (a % 2 + b % 2) % 2 := by
  have h := Nat.testBit_xor a b 0
  rw [Nat.testBit_zero, Nat.testBit_zero, Nat.testBit_zero] at h
  rcases Nat.mod_two_eq_zero_or_one a with ha | ha <;> rcases Nat.mod_two_eq_zero_or_one b with hb | hb <;> rcases Nat.mod_two_eq_zero_or_one (a ^^^ b) with hc | hc <;> rw [ha, hb, hc] at h <;> simp at h <;> omega
theorem xor_nil {a b : Nat} : a ^^^ b = 0 ↔ a = b := by
  constructor
  · intro h
    have : a ^^^ (a ^^^ b) = b := by rw [← Nat.xor_assoc, Nat.xor_self, Nat.zero_xor]
    rw [h, Nat.xor_zero] at this; exact this
  · rintro rfl; exact Nat.xor_self _
def P (X Y : Nat) : Prop := Y < X ∧ Y < X ^^^ Y
theorem P_half (X Y : Nat) (h : ¬ (X / 2 = 0 ∧ Y / 2 = 0)) : P X Y ↔ P (X / 2) (Y / 2) := by
  unfold P
  have e := xor_half X Y
  rw [← e]
  have n : X / 2 = Y / 2 ↔ (X ^^^ Y) / 2 = 0 := by rw [e]; exact xor_nil.symm
  have n2 : (X ^^^ Y) / 2 = Y / 2 ↔ X / 2 = 0 := by
    rw [e]
    constructor
    · intro h
      have : X / 2 ^^^ Y / 2 ^^^ Y / 2 = Y / 2 ^^^ Y / 2 := by rw [h]
      rw [Nat.xor_assoc, Nat.xor_self, Nat.xor_zero] at this; exact this
    · intro h; rw [h, Nat.zero_xor]
  generalize X ^^^ Y = Z at *
  constructor
  · rintro ⟨h1, h2⟩
    constructor
    · by_cases hh : X / 2 = Y / 2
      · have := n.1 hh; omega
      · omega
    · by_cases hh : Z / 2 = Y / 2
      · have := n2.1 hh; omega
      · omega
  · rintro ⟨h1, h2⟩; omega
theorem less (k : Nat) : ∀ ax ay bx b, ax < 2 ^ k → ay < 2 ^ k → bx < 2 ^ k → b < 2 ^ k →
    ((P (ax ^^^ bx) (ay ^^^ b) → (zc k ax ay < zc k bx b ↔ ax < bx)) ∧ (¬ P (ax ^^^ bx) (ay ^^^ b) → (zc k ax ay < zc k bx b ↔ ay < b)))
    ∧ (zc k ax ay = zc k bx b → ax = bx ∧ ay = b) := by
  induction k with
  | zero => intro ax ay bx b h1 h2 h3 h4; simp [zc, sp] at *; omega
  | succ k ih =>
    intro ax ay bx b h1 h2 h3 h4
    rw [Nat.pow_succ] at h1 h2 h3 h4
    obtain ⟨⟨i1, i2⟩, i3⟩ := ih (ax / 2) (ay / 2) (bx / 2) (b / 2) (by omega) (by omega) (by omega) (by omega)
    rw [zc_succ, zc_succ]
    have hx := xor_half ax bx
    have hy := xor_half ay b
    have nx : ax / 2 = bx / 2 ↔ (ax ^^^ bx) / 2 = 0 := by rw [hx]; exact xor_nil.symm
    have ny : ay / 2 = b / 2 ↔ (ay ^^^ b) / 2 = 0 := by rw [hy]; exact xor_nil.symm
    have lx := xor_low ax bx
    have ly := xor_low ay b
    by_cases hz : ax / 2 = bx / 2 ∧ ay / 2 = b / 2
    · obtain ⟨q1, q2⟩ := hz
      rw [q1, q2]
      have m1 := nx.1 q1
      have m2 := ny.1 q2
      refine ⟨?_, by omega⟩
      unfold P
      have r1 := Nat.mod_two_eq_zero_or_one ax
      have r2 := Nat.mod_two_eq_zero_or_one ay
      have r3 := Nat.mod_two_eq_zero_or_one bx
      have r4 := Nat.mod_two_eq_zero_or_one b
      generalize hX : ax ^^^ bx = X at *
      generalize hY : ay ^^^ b = Y at *
      have c1 : X = 0 ∨ X = 1 := by omega
      have c2 : Y = 0 ∨ Y = 1 := by omega
      have c3 : X ^^^ Y = (X + Y) % 2 := by rcases c1 with rfl | rfl <;> rcases c2 with rfl | rfl <;> rfl
      rw [c3]
      omega
    · have hz' : ¬ ((ax ^^^ bx) / 2 = 0 ∧ (ay ^^^ b) / 2 = 0) := by rw [← nx, ← ny]; exact hz
      have hp := P_half _ _ hz'
      rw [hx, hy] at hp
      refine ⟨⟨fun h => ?_, fun h => ?_⟩, fun h => ?_⟩
      · have hp' := hp.1 h
        have hne : ax / 2 ≠ bx / 2 := by
          intro e
          rw [e, Nat.xor_self] at hp'
          exact absurd hp'.1 (Nat.not_lt_zero _)
        have := i1 hp'
        have h5 : zc k (ax / 2) (ay / 2) ≠ zc k (bx / 2) (b / 2) := fun e => hne (i3 e).1
        omega
      · have hp' := fun q => h (hp.2 q)
        have hne : ay / 2 ≠ b / 2 := by
          intro e
          apply hp'
          rw [e, Nat.xor_self]
          have : ax / 2 ^^^ bx / 2 ≠ 0 := fun q => hz ⟨xor_nil.1 q, e⟩
          exact ⟨by omega, by rw [Nat.xor_zero]; omega⟩
        have := i2 hp'
        have h5 : zc k (ax / 2) (ay / 2) ≠ zc k (bx / 2) (b / 2) := fun e => hne (i3 e).2
        omega
      · have h5 : zc k (ax / 2) (ay / 2) ≠ zc k (bx / 2) (b / 2) := fun e => hz (i3 e)
        omega

end Go.Proofs.Ytabkoclmhdnjfaa.Z
