/- For all keys and counts of bits, the lowest bits go on from fewer to more, and two keys have the same ones just as far as they are alike. No condition. -/
import Derived.Test.YtbmkkehbmkcinaaPAllx16
import Derived.Test.YtbmkkehbmkcinaaMixF
namespace Go.Proofs.Ytbmkkehbmkcinaa.Pure
open Go.RowKit Go.Proofs.Ytbmkkehbmkcinaa.PAll Go.Proofs.Ytbmkkehbmkcinaa.MixF Go.Proofs.YtbmkkehbmkcinaaW.PrintWords Go.Proofs.YtbmkkehbmkcinaaW.PrintLast Go.Proofs.YtbmkkehbmkcinaaW.PrintMore

theorem low_iff (a b : BitVec 64) (j : Nat) (hj : j ≤ 64) : (m a % 2 ^ j = m b % 2 ^ j) ↔ j ≤ alike a b := by
  constructor
  · intro h
    by_cases hlt : alike a b < j
    · have h1 := alike_not a b (by omega)
      have h2 : (m a % 2 ^ j).testBit (alike a b) = (m b % 2 ^ j).testBit (alike a b) := by rw [h]
      rw [Nat.testBit_mod_two_pow, Nat.testBit_mod_two_pow] at h2
      simp only [hlt, decide_true, Bool.true_and] at h2
      exact absurd h2 h1
    · omega
  · intro h
    apply Nat.eq_of_testBit_eq
    intro i
    rw [Nat.testBit_mod_two_pow, Nat.testBit_mod_two_pow]
    by_cases hi : i < j
    · rw [alike_same a b i (by omega)]
    · simp [hi]
theorem shl_f (j : Nat) (hj : j ≤ 31) : shl .i64 1 (j : Int) = ((2 ^ j : Nat) : Int) := by
  have hp : 2 ^ j ≤ 2 ^ 31 := Nat.pow_le_pow_right (by omega) hj
  rw [shl, Int.toNat_natCast, show min j IntKind.i64.bits = j from Nat.min_eq_left (by show j ≤ 64; omega), Int.one_mul, show ((2 : Int) ^ j) = ((2 ^ j : Nat) : Int) from by simp]
  have : IntKind.i64.wrap ((2 ^ j : Nat) : Int) = wrap64 ((2 ^ j : Nat) : Int) := by rw [IntKind.wrap_i64]; unfold wrap64; rfl
  rw [this]
  generalize 2 ^ j = z at hp ⊢
  unfold wrap64; omega
theorem MixLow : counterpanelaw03_MixLow.Pure := by
  intro a b j ha hb hj
  obtain ⟨a, rfl⟩ := of_u64 ha
  obtain ⟨b, rfl⟩ := of_u64 hb
  refine ⟨90, ?_⟩
  have hw : counterpanelaw03_MixLow.j0 90 (n a) (n b) j true = some true := by
    rw [counterpanelaw03_MixLow.j0, if_pos rfl, works_f 89 (by omega)]; rfl
  rw [counterpanelaw03_MixLow.f]
  by_cases h0 : j < 0
  · rw [if_pos h0]; exact hw
  · rw [if_neg h0]
    by_cases h1 : j > 31
    · rw [decide_eq_true h1]; exact hw
    · rw [decide_eq_false h1]
      obtain ⟨i, rfl⟩ : ∃ i : Nat, j = i := ⟨j.toNat, by omega⟩
      have e1 : wrap64 ((i : Int) + 1) = ((i + 1 : Nat) : Int) := by unfold wrap64; omega
      have hp : 2 ^ i ≤ 2 ^ 31 := Nat.pow_le_pow_right (by omega) (by omega)
      have hp1 : 1 ≤ 2 ^ i := Nat.one_le_two_pow
      have hm : m a % 2 ^ i < 2 ^ i := Nat.mod_lt _ (by omega)
      have hs := Nat.mod_pow_succ (x := m a) (b := 2) (k := i)
      have hfin : counterpanelaw03_MixLow.j1 89 (n a) (n b) i ((m a % 2 ^ i : Nat) : Int) ((m a % 2 ^ (i + 1) : Nat) : Int) (((2 ^ i * (m a / 2 ^ i % 2) : Nat) : Int)) = some true := by
        have hd2 : m a / 2 ^ i % 2 < 2 := Nat.mod_lt _ (by omega)
        have hle : 2 ^ i * (m a / 2 ^ i % 2) ≤ 2 ^ i := by
          have : 2 ^ i * (m a / 2 ^ i % 2) ≤ 2 ^ i * 1 := Nat.mul_le_mul_left _ (by omega)
          omega
        have ew : wrap64 (((m a % 2 ^ i : Nat) : Int) + ((2 ^ i * (m a / 2 ^ i % 2) : Nat) : Int)) = ((m a % 2 ^ (i + 1) : Nat) : Int) := by
          rw [hs]
          generalize 2 ^ i * (m a / 2 ^ i % 2) = y at hle ⊢
          generalize m a % 2 ^ i = x at hm ⊢
          generalize 2 ^ i = z at hp hm hle
          unfold wrap64; omega
        rw [counterpanelaw03_MixLow.j1, if_pos ew.symm, if_pos (by omega), if_pos (by omega), shl_f i (by omega), if_pos (by omega), low_f a i (by omega), Option.bind_some, low_f b i (by omega), Option.bind_some, alike_f a b 88 (by omega), Option.bind_some, if_pos, works_f 88 (by omega)]
        · rfl
        · have h := low_iff a b i (by omega)
          by_cases hc : m a % 2 ^ i = m b % 2 ^ i
          · have h2 := h.1 hc
            rw [hc]; simp; exact h2
          · have h2 : ¬ i ≤ alike a b := fun e => hc (h.2 e)
            have h3 : (((m a % 2 ^ i : Nat) : Int) == ((m b % 2 ^ i : Nat) : Int)) = false := by
              rw [beq_eq_false_iff_ne]; intro e; exact hc (Int.ofNat.inj e)
            have h4 : decide (((alike a b : Nat) : Int) ≥ (i : Int)) = false := decide_eq_false (by omega)
            rw [h3, h4]; rfl
      rw [counterpanelaw03_MixLow.j0, if_neg (by simp), low_f a i (by omega), Option.bind_some, e1, low_f a (i + 1) (by omega), Option.bind_some, bit_f a i (by omega), Option.bind_some, testBit_num]
      by_cases hb : m a / 2 ^ i % 2 = 1
      · rw [if_pos (by simpa using hb), if_pos (by omega), shl_f i (by omega)]
        rw [hb, Nat.mul_one] at hfin; exact hfin
      · have hb0 : m a / 2 ^ i % 2 = 0 := by omega
        rw [if_neg (by simpa using hb)]
        rw [hb0, Nat.mul_zero] at hfin; exact hfin

end Go.Proofs.Ytbmkkehbmkcinaa.Pure
