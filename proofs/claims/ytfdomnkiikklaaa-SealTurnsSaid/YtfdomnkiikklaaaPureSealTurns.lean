/- For all bytes, a burst of turned bits that lie within 32 of each other in what is sealed is told: it is not got any more. No condition. -/
import Derived.Test.YtfdomnkiikklaaaPAllx14
import Derived.Test.YtfdomnkiikklaaaSealG
namespace Go.Proofs.Ytfdomnkiikklaaa.Pure
open Go.RowKit Go.Proofs.Ytfdomnkiikklaaa.PAll Go.Proofs.Ytfdomnkiikklaaa.Seal Go.Proofs.Ytfdomnkiikklaaa.SealF Go.Proofs.YtfdomnkiikklaaaW.PrintWords Go.Proofs.YtfdomnkiikklaaaW.PrintLast

theorem sealed_G {l : List Int} (hb : Byt l) (h : IsSealed l) : G (~~~ 0#32) (le l) (8 * l.length) = it 32 (BitVec.allOnes 32) := by
  have ht := byt_take hb (l.length - 4)
  have e : l.take (l.length - 4) ++ q (crc (l.take (l.length - 4))) = l := by rw [← h.2, List.take_append_drop]
  rw [← e, G_append _ _ _ ht, q_len, q_le, G_it 32 _ _ (by omega) (BitVec.isLt _), BitVec.ofNat_toNat, crc]
  generalize G (~~~ 0#32) _ _ = s
  congr 1
  rw [BitVec.setWidth_eq]
  apply BitVec.eq_of_getLsbD_eq; intro i hi
  rw [BitVec.getLsbD_xor, BitVec.getLsbD_not, BitVec.getLsbD_allOnes]
  simp [hi]
theorem xor_low (a b j : Nat) (ha : a < 256) (hj : j < 8) : (a ^^^ 2 ^ j) + 256 * b = (a + 256 * b) ^^^ 2 ^ j := by
  have h2 : a ^^^ 2 ^ j < 2 ^ 8 := Nat.xor_lt_two_pow ha (Nat.pow_lt_pow_right (by omega) hj)
  apply Nat.eq_of_testBit_eq; intro i
  rw [Nat.testBit_xor, show (256 : Nat) = 2 ^ 8 from rfl, Nat.add_comm, Nat.testBit_two_pow_mul_add _ h2, Nat.add_comm a, Nat.testBit_two_pow_mul_add _ (show a < 2 ^ 8 from ha), Nat.testBit_xor, Nat.testBit_two_pow]
  by_cases h : i < 8
  · simp [h]
  · have : ¬ j = i := by omega
    simp [h, this]
theorem xor_high (a b e : Nat) (ha : a < 256) : a + 256 * (b ^^^ e) = (a + 256 * b) ^^^ (256 * e) := by
  apply Nat.eq_of_testBit_eq; intro i
  rw [Nat.testBit_xor, show (256 : Nat) = 2 ^ 8 from rfl, Nat.add_comm, Nat.testBit_two_pow_mul_add _ (show a < 2 ^ 8 from ha), Nat.add_comm a, Nat.testBit_two_pow_mul_add _ (show a < 2 ^ 8 from ha), Nat.testBit_two_pow_mul, Nat.testBit_xor]
  by_cases h : i < 8
  · have : ¬ 8 ≤ i := by omega
    simp [h, this]
  · have : 8 ≤ i := by omega
    simp [h, this]
theorem le_set (j : Nat) (hj : j < 8) : ∀ (l : List Int) (k c : Nat), Byt l → k < l.length → rd l (k : Int) = c → le (l.set k ((c ^^^ 2 ^ j : Nat) : Int)) = le l ^^^ 2 ^ (8 * k + j)
  | [], k, c, _, h, _ => by simp at h
  | x :: l, 0, c, hb, _, hc => by
    have hx := hb x (by simp)
    simp [rd] at hc
    subst hc
    simp only [List.set_cons_zero, le, Int.toNat_natCast, Nat.mul_zero, Nat.zero_add]
    exact xor_low c _ j (by omega) hj
  | x :: l, k + 1, c, hb, hk, hc => by
    have hx := hb x (by simp)
    have hr : rd l (k : Int) = c := by
      rw [rd] at hc ⊢
      rw [show ((k + 1 : Nat) : Int).toNat = k + 1 from by omega, List.getD_cons_succ] at hc
      rw [show ((k : Nat) : Int).toNat = k from by omega]; exact hc
    simp only [List.set_cons_succ, le]
    rw [le_set j hj l k c (fun z hz => hb z (by simp [hz])) (by simpa using hk) hr, show 8 * (k + 1) + j = 8 + (8 * k + j) from by omega, Nat.pow_add 2 8]
    exact xor_high x.toNat _ _ (by omega)
theorem mask_step (m i b : Nat) (nn : Nat) (hb : m / 2 ^ i % 2 = b) : (m % 2 ^ (i + 1)) * 2 ^ nn = (m % 2 ^ i) * 2 ^ nn ^^^ b * 2 ^ (nn + i) := by
  apply Nat.eq_of_testBit_eq; intro t
  rw [Nat.testBit_xor, Nat.testBit_mul_two_pow, Nat.testBit_mul_two_pow, Nat.testBit_mul_two_pow, Nat.testBit_mod_two_pow, Nat.testBit_mod_two_pow]
  have hb1 : ∀ z, b.testBit z = (decide (z = 0) && m.testBit i) := by
    intro z
    have : m.testBit i = decide (b = 1) := by rw [Nat.testBit_eq_decide_div_mod_eq, hb]
    rw [this]
    have h01 : b = 0 ∨ b = 1 := by omega
    rcases h01 with rfl | rfl
    · simp
    · match z with
      | 0 => simp
      | z + 1 => simp [Nat.testBit_succ]
  rw [hb1]
  by_cases h1 : nn ≤ t
  · by_cases h2 : t - nn = i
    · have h3 : nn + i ≤ t := by omega
      have h4 : t - (nn + i) = 0 := by omega
      simp [h1, h2, h3, h4]
    · by_cases h3 : nn + i ≤ t
      · have h4 : ¬ t - (nn + i) = 0 := by omega
        have h5 : ¬ t - nn < i := by omega
        have h6 : ¬ t - nn < i + 1 := by omega
        simp [h4, h5, h6]
      · have h5 : t - nn < i := by omega
        have h6 : t - nn < i + 1 := by omega
        simp [h1, h3, h5, h6]
  · have h3 : ¬ nn + i ≤ t := by omega
    simp [h1, h3]

theorem pow_small (e : Nat) (h : e < 8) : 2 ^ e < 256 := Nat.lt_of_lt_of_le (Nat.pow_lt_pow_right (a := 2) (by omega) h) (by decide)
theorem shl_bit : ∀ e : Nat, e < 8 → shl .u8 1 (e : Int) = ((2 ^ e : Nat) : Int) := by
  intro e he
  have hmin : min (e : Int).toNat IntKind.u8.bits = e := by rw [Int.toNat_natCast]; exact Nat.min_eq_left (by show e ≤ 8; omega)
  have hp := pow_small e he
  rw [shl, hmin, IntKind.wrap_u8', Int.one_mul, show ((2 : Int) ^ e) = ((2 ^ e : Nat) : Int) from by simp]
  exact Int.emod_eq_of_lt (Int.natCast_nonneg _) (Int.ofNat_lt.2 hp)
theorem places (nn i : Nat) (h : nn ≤ 30000) (hi : i ≤ 40) : ∃ k8 e8 : Nat, nn + i = 8 * k8 + e8 ∧ e8 < 8 ∧ IntKind.u64.wrap (i : Int) = i ∧ wrap64 ((i : Int) + 1) = ((i + 1 : Nat) : Int) ∧ wrap64 ((nn : Int) + i) = ((nn + i : Nat) : Int) ∧
    wrap64 (Int.tdiv ((nn + i : Nat) : Int) 8) = (k8 : Int) ∧ IntKind.u64.wrap (Int.tmod ((nn + i : Nat) : Int) 8) = (e8 : Int) := by
  refine ⟨(nn + i) / 8, (nn + i) % 8, by omega, by omega, by rw [IntKind.wrap_u64]; omega, by unfold wrap64; omega, by unfold wrap64; omega, ?_, ?_⟩
  · rw [Int.tdiv_eq_ediv_of_nonneg (by omega)]; unfold wrap64; omega
  · rw [Int.tmod_eq_emod_of_nonneg (by omega), IntKind.wrap_u64]; omega
theorem bit_of (m i : Nat) (hm : m < 4294967296) (hi : i ≤ 32) : shr .u32 (m : Int) (i : Int) = ((m / 2 ^ i : Nat) : Int) ∧ bits .and .u32 ((m / 2 ^ i : Nat) : Int) 1 = ((m / 2 ^ i % 2 : Nat) : Int) := by
  constructor
  · have hmin : min (i : Int).toNat IntKind.u32.bits = i := by simp [IntKind.bits]; omega
    rw [shr, hmin]; simp
  · have hdl : m / 2 ^ i ≤ m := Nat.div_le_self _ _
    have := u32_and_nat (m / 2 ^ i) 1 (by omega) (by omega)
    rw [Nat.and_one_is_mod] at this
    exact this
def Inv (t : List Int) (m nn i : Nat) (x : List Int) : Prop := le x = le t ^^^ (m % 2 ^ i) * 2 ^ nn
theorem turns_l (t : List Int) (htb : Byt t) (hg : IsSealed t) (m nn : Nat) (hm : m < 4294967296) (hm0 : m ≠ 0) (hn : nn + 32 ≤ 8 * t.length) (htl : t.length ≤ 3000) (d : Nat) : ∀ (i : Nat) (x : List Int), i + d = 32 → x.length = t.length → Byt x →
    Inv t m nn i x → counterpanelaw02_SealTurns.l0 (d + 1) m x nn i = some true := by
  induction d with
  | zero =>
    intro i x hi hl hb he
    obtain rfl : i = 32 := by omega
    rw [counterpanelaw02_SealTurns.l0, if_neg (by omega)]
    have hns : ¬ IsSealed x := by
      intro hx
      have h1 := sealed_G hb hx
      have h2 := sealed_G htb hg
      rw [hl, show le x = le t ^^^ (m % 2 ^ 32) * 2 ^ nn from he, Nat.mod_eq_of_lt (show m < 2 ^ 32 from hm)] at h1
      have h3 := G_xor (8 * t.length) (~~~ 0#32) 0#32 (le t) (m * 2 ^ nn)
      rw [BitVec.xor_zero, h1, h2] at h3
      have h4 : G 0#32 (m * 2 ^ nn) (8 * t.length) = 0#32 := by
        have := congrArg (fun z => it 32 (BitVec.allOnes 32) ^^^ z) h3
        simp only [BitVec.xor_self, ← BitVec.xor_assoc] at this
        rw [BitVec.zero_xor] at this
        exact this.symm
      rw [show 8 * t.length = nn + (8 * t.length - nn) from by omega] at h4
      exact hm0 (G_burst nn _ m hm (by omega) h4)
    rw [(get_f x hb (by omega)).2 hns, Option.bind_some]
    simp [works_f]
  | succ d ih =>
    intro i x hi hl hb he
    obtain ⟨k8, e8, hke, he88, hw, hi1, hs1, hd1, hd2⟩ := places nn i (by omega) (by omega)
    obtain ⟨hs, hbit⟩ := bit_of m i hm (by omega)
    have hb2 : m / 2 ^ i % 2 = 0 ∨ m / 2 ^ i % 2 = 1 := Nat.mod_two_eq_zero_or_one _
    rw [counterpanelaw02_SealTurns.l0, if_pos (by omega), hw, if_pos (by omega), hs, hbit, hs1, hd1, hd2, hi1]
    clear hw hs hbit hs1 hd1 hd2 hi1
    rcases hb2 with hz | ho
    · rw [hz, if_neg (by omega)]
      exact ih (i + 1) x (by omega) hl hb (by unfold Inv; rw [mask_step m i 0 nn hz, Nat.zero_mul, Nat.xor_zero]; exact he)
    · have hidx : k8 < x.length := by omega
      obtain ⟨c, hc⟩ : ∃ c : Nat, rd x (k8 : Int) = c ∧ c < 256 := by
        have := hb (x[k8]) (List.getElem_mem hidx)
        refine ⟨(x[k8]).toNat, ?_, by omega⟩
        simp [rd, hidx]
        omega
      have hsh := shl_bit e8 he88
      have hp := pow_small e8 he88
      have hlt : c ^^^ 2 ^ e8 < 2 ^ 8 := Nat.xor_lt_two_pow hc.2 hp
      rw [ho, if_pos (by omega), if_pos (by omega), if_pos (by omega), if_pos (by omega), hsh, hc.1, u8_xor_nat c _ hc.2 hp, Int.toNat_natCast]
      apply ih (i + 1) _ (by omega) (by rw [List.length_set]; exact hl)
      · intro z hz
        rcases List.mem_or_eq_of_mem_set hz with h | h
        · exact hb z h
        · rw [h]; omega
      · unfold Inv; rw [le_set _ he88 x _ c hb hidx hc.1, show le x = le t ^^^ (m % 2 ^ i) * 2 ^ nn from he, mask_step m i 1 nn ho, Nat.one_mul, Nat.xor_assoc, hke]

theorem SealTurns : counterpanelaw02_SealTurns.Pure := by
  intro l a m _ _ hw ha hm
  have hb := byt_of hw
  have h16 : 0 ≤ a ∧ a < 65536 := by
    simp [Lit.wf, IntKind.min, IntKind.max, IntKind.signed, IntKind.bits] at ha; omega
  have h32 : 0 ≤ m ∧ m < 4294967296 := by
    simp [Lit.wf, IntKind.min, IntKind.max, IntKind.signed, IntKind.bits] at hm; omega
  have hwk : ∀ k, counterpanelaw02_SealTurns.j0 (k + 1) l a m true = some true := by
    intro k; rw [counterpanelaw02_SealTurns.j0, if_pos rfl, works_f]; rfl
  refine ⟨34, ?_⟩
  by_cases h : (l.length : Int) > 2000
  · rw [counterpanelaw02_SealTurns.f, if_pos h, hwk]
  · rw [counterpanelaw02_SealTurns.f, if_neg h]
    by_cases hz : m = 0
    · subst hz; exact hwk _
    · obtain ⟨M, rfl⟩ : ∃ M : Nat, m = M := ⟨m.toNat, by omega⟩
      have hz' : ((M : Int) == 0) = false := by simpa using hz
      rw [hz', counterpanelaw02_SealTurns.j0, if_neg (by simp), put_f l hb (by omega), Option.bind_some]
      have hlen : (l ++ q (crc l)).length = l.length + 4 := by simp [q_len]
      have e1 : wrap64 (8 * (((l ++ q (crc l)).length : Nat) : Int)) = 8 * ((l.length : Int) + 4) := by rw [hlen]; unfold wrap64; omega
      have e2 : wrap64 (8 * ((l.length : Int) + 4) - 31) = 8 * ((l.length : Int) + 4) - 31 := by unfold wrap64; omega
      have e3 : wrap64 a = a := by unfold wrap64; omega
      have h0 : 0 ≤ Int.tmod a (8 * ((l.length : Int) + 4) - 31) := Int.tmod_nonneg _ h16.1
      have h1 : Int.tmod a (8 * ((l.length : Int) + 4) - 31) < 8 * ((l.length : Int) + 4) - 31 := Int.tmod_lt_of_pos _ (by omega)
      rw [e1, e2, e3, if_neg (by rw [hlen]; omega), if_neg (by omega)]
      generalize Int.tmod a (8 * ((l.length : Int) + 4) - 31) = j at h0 h1
      obtain ⟨nn, rfl⟩ : ∃ nn : Nat, j = nn := ⟨j.toNat, by omega⟩
      exact turns_l (l ++ q (crc l)) (byt_append hb (q_byt _)) (put_good l) M nn (by omega) (by omega) (by rw [hlen]; omega) (by rw [hlen]; omega) 32 0 _ (by omega) rfl (byt_append hb (q_byt _)) (by unfold Inv; rw [Nat.pow_zero, Nat.mod_one, Nat.zero_mul, Nat.xor_zero])

end Go.Proofs.Ytfdomnkiikklaaa.Pure
