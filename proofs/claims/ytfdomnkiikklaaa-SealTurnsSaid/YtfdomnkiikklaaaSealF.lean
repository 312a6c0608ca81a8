/- What the printed functions of seal and of its reference compute, told by the shift register: sums, what is put, what is got. No condition but that bytes are bytes and that there are at most 2^30 of them. -/
import Derived.Test.YtfdomnkiikklaaaPAllx
import Derived.Test.YtfdomnkiikklaaaSeal
namespace Go.Proofs.Ytfdomnkiikklaaa.SealF
open Go.RowKit Go.Proofs.Ytfdomnkiikklaaa.PAll Go.Proofs.Ytfdomnkiikklaaa.Seal Go.Proofs.YtfdomnkiikklaaaW.PrintWords Go.Proofs.YtfdomnkiikklaaaW.PrintLast

def n (v : BitVec 32) : Int := (v.toNat : Int)
theorem n_xor (a b : BitVec 32) : bits .xor .u32 (n a) (n b) = n (a ^^^ b) := by
  rw [n, n, u32_xor_nat a.toNat b.toNat a.isLt b.isLt]; simp [n]
theorem n_and (a b : BitVec 32) : bits .and .u32 (n a) (n b) = n (a &&& b) := by
  rw [n, n, u32_and_nat a.toNat b.toNat a.isLt b.isLt]; simp [n]
theorem n_shr (a : BitVec 32) (k : Nat) : n a / (2 : Int) ^ k = n (a >>> k) := by
  simp [n, BitVec.toNat_ushiftRight, Nat.shiftRight_eq_div_pow]
theorem n_half (a : BitVec 32) : n a / (2 : Int) = n (a >>> 1) := by have := n_shr a 1; simpa using this
theorem n_nib (a : BitVec 32) : n a / (16 : Int) = n (a >>> 4) := by have := n_shr a 4; simpa using this
theorem n_and1 (a : BitVec 32) : bits .and .u32 (n a) 1 = n (a &&& 1#32) := n_and a 1#32
theorem n_and15 (a : BitVec 32) : bits .and .u32 (n a) 15 = n (a &&& 15#32) := n_and a 15#32
theorem n_poly (a : BitVec 32) : bits .xor .u32 (n a) 2197175160 = n (a ^^^ 0x82f63b78#32) := n_xor a 0x82f63b78#32
theorem n_ofNat (c : Nat) (h : c < 4294967296) : n (BitVec.ofNat 32 c) = c := by simp [n]; omega
theorem n_bit (v : BitVec 32) : (n (v &&& 1#32) = 1) ↔ v.getLsbD 0 = true := by
  rw [n, BitVec.toNat_and, show (1#32).toNat = 1 from rfl, Nat.and_one_is_mod, BitVec.getLsbD, Nat.testBit_zero]
  simp; omega
theorem step_n (k : Nat) (v : BitVec 32) (i j : Int) (hi : i < 4) (hj : wrap64 (i + 1) = j) : seal_step.l0 (k + 1) (n v) i = seal_step.l0 k (n (M v)) j := by
  rw [seal_step.l0, if_pos hi, hj, n_and1, n_half, n_poly]
  have hb := n_bit v
  cases h : v.getLsbD 0
  · rw [if_neg (by rw [hb, h]; simp), M, h]
    simp
  · rw [if_pos (by rw [hb, h]), M, h]
    simp
theorem stp_n (v : BitVec 32) : seal_Go.stp (n v) = n (it 4 v) := by
  unfold seal_Go.stp seal_step.f
  rw [step_n _ _ 0 1 (by omega) (by kernel_rfl), step_n _ _ 1 2 (by omega) (by kernel_rfl), step_n _ _ 2 3 (by omega) (by kernel_rfl), step_n _ _ 3 4 (by omega) (by kernel_rfl), seal_step.l0, if_neg (by omega)]
  rfl
theorem half_n (r : BitVec 32) (c : Nat) (hc : c < 256) : seal_Go.half (n r) c = n (it 4 (r ^^^ BitVec.ofNat 32 (c % 16))) := by
  have e : (c : Int) % 4294967296 = n (BitVec.ofNat 32 c) := by rw [n_ofNat c (by omega)]; omega
  rw [seal_Go.half, e, n_xor, n_and15, stp_n, n_nib, n_xor, it_split 4 (by omega) (r ^^^ BitVec.ofNat 32 (c % 16))]
  have e1 : (r ^^^ BitVec.ofNat 32 c) &&& 15#32 = (r ^^^ BitVec.ofNat 32 (c % 16)) &&& BitVec.ofNat 32 (2 ^ 4 - 1) := by
    apply BitVec.eq_of_getLsbD_eq; intro i hi
    rw [BitVec.getLsbD_and, BitVec.getLsbD_and, mask_bit 4 i (by omega), BitVec.getLsbD_xor, BitVec.getLsbD_xor, BitVec.getLsbD_ofNat, BitVec.getLsbD_ofNat, show (16 : Nat) = 2 ^ 4 from rfl, Nat.testBit_mod_two_pow]
    by_cases h : i < 4 <;> simp [h]
  have e2 : (r ^^^ BitVec.ofNat 32 (c % 16)) >>> 4 = r >>> 4 := by
    rw [BitVec.ushiftRight_xor_distrib]
    have : BitVec.ofNat 32 (c % 16) >>> 4 = 0#32 := by
      apply BitVec.eq_of_toNat_eq
      rw [BitVec.toNat_ushiftRight, BitVec.toNat_ofNat, Nat.shiftRight_eq_div_pow]
      simp; omega
    rw [this, BitVec.xor_zero]
  rw [e1, e2]
theorem byte_n (r : BitVec 32) (c : Nat) (hc : c < 256) : seal_Go.byte (n r) c = n (G r c 8) := by
  rw [seal_Go.byte, half_n r c hc, show ((c : Int) / 16) = ((c / 16 : Nat) : Int) from by omega, half_n _ (c / 16) (by omega), G_it 8 r c (by omega) (by omega), it_add 4 4]
  congr 1
  congr 1
  have h1 : c / 16 % 16 = c / 16 := by omega
  have e : BitVec.ofNat 32 c = BitVec.ofNat 32 (c % 16) ^^^ BitVec.ofNat 32 (c / 16 * 16) := by
    rw [← ofNat_xor]; congr 1
    apply Nat.eq_of_testBit_eq; intro i
    rw [Nat.testBit_xor, show (16 : Nat) = 2 ^ 4 from rfl, Nat.testBit_mod_two_pow, Nat.testBit_mul_two_pow, Nat.testBit_div_two_pow]
    by_cases h : i < 4
    · have h4 : ¬ 4 ≤ i := by omega
      simp [h, h4]
    · have h4 : 4 ≤ i := by omega
      simp [h, h4]
  have hl : it 4 (BitVec.ofNat 32 (c / 16 * 16)) = BitVec.ofNat 32 (c / 16) := by
    rw [it_low 4 _ (fun i hi => by
      rw [BitVec.getLsbD_ofNat, show (16 : Nat) = 2 ^ 4 from rfl, Nat.testBit_mul_two_pow]
      have : ¬ 4 ≤ i := by omega
      simp [this])]
    apply BitVec.eq_of_toNat_eq
    rw [BitVec.toNat_ushiftRight, BitVec.toNat_ofNat, BitVec.toNat_ofNat, Nat.shiftRight_eq_div_pow, Nat.mod_eq_of_lt (by omega), Nat.mod_eq_of_lt (by omega)]
    omega
  rw [h1, e, ← BitVec.xor_assoc, it_xor 4 (r ^^^ BitVec.ofNat 32 (c % 16)), hl]

/-- Bytes as one number, the first one lowest. -/
def le : List Int → Nat
  | [] => 0
  | c :: r => c.toNat + 256 * le r
def Byt (l : List Int) : Prop := ∀ x ∈ l, 0 ≤ x ∧ x < 256
theorem G_mod (j : Nat) : ∀ s E F, E % 2 ^ j = F % 2 ^ j → G s E j = G s F j := by
  induction j with
  | zero => intro s E F _; rfl
  | succ j ih =>
    intro s E F h
    have h2 : E % 2 = F % 2 := by
      have d : 2 ∣ 2 ^ (j + 1) := by rw [Nat.pow_succ]; exact Nat.dvd_mul_left 2 _
      have h3 : E % 2 ^ (j + 1) % 2 = F % 2 ^ (j + 1) % 2 := by rw [h]
      rwa [Nat.mod_mod_of_dvd _ d, Nat.mod_mod_of_dvd _ d] at h3
    simp only [G]
    rw [h2]
    apply ih
    have e : ∀ z : Nat, z / 2 % 2 ^ j = z % 2 ^ (j + 1) / 2 := by
      intro z; rw [Nat.pow_succ, Nat.mul_comm, Nat.mod_mul_right_div_self]
    rw [e, e, h]
theorem fold_n (l : List Int) : ∀ s, Byt l → l.foldl seal_Go.byte (n s) = n (G s (le l) (8 * l.length)) := by
  induction l with
  | nil => intro s _; rfl
  | cons c r ih =>
    intro s h
    have hc := h c (by simp)
    obtain ⟨m, rfl⟩ : ∃ m : Nat, c = m := ⟨c.toNat, by omega⟩
    rw [List.foldl_cons, byte_n s m (by omega), ih _ (fun x hx => h x (by simp [hx])), List.length_cons, show 8 * (r.length + 1) = 8 + 8 * r.length from by omega, G_more]
    congr 2
    · apply G_mod; simp only [le, Int.toNat_natCast]; omega
    · simp only [le, Int.toNat_natCast]; omega
def crc (l : List Int) : BitVec 32 := ~~~ (G (~~~ 0#32) (le l) (8 * l.length))
theorem notu_n (v : BitVec 32) : seal_Go.notu (n v) = n (~~~ v) := by
  rw [seal_Go.notu, show IntKind.u32.max = n (BitVec.allOnes 32) from by kernel_rfl, n_xor, BitVec.allOnes_xor]
theorem v_n (s : BitVec 32) (l : List Int) (h : Byt l) : seal_Go.v (n s) l = n (~~~ (G (~~~ s) (le l) (8 * l.length))) := by
  rw [seal_Go.v, notu_n, fold_n l _ h, notu_n]
theorem go_f (s : BitVec 32) (l : List Int) (h : Byt l) (hl : l.length ≤ 1073741824) : seal_Go.f (n s) l = some (n (~~~ (G (~~~ s) (le l) (8 * l.length)))) := by
  rw [seal_Go.f, if_pos hl, v_n s l h]
theorem sum_f (l : List Int) (h : Byt l) (hl : l.length ≤ 1073741824) : seal_Sum.f l = some (n (crc l)) := by
  rw [seal_Sum.f, show (0 : Int) = n 0#32 from rfl, go_f _ l h hl]; rfl
theorem le_append (a b : List Int) : le (a ++ b) = le a + 2 ^ (8 * a.length) * le b := by
  induction a with
  | nil => simp [le]
  | cons c r ih => rw [List.cons_append, le, le, ih, List.length_cons, show 8 * (r.length + 1) = 8 * r.length + 8 from by omega, Nat.pow_add]; simp only [show (2 : Nat) ^ 8 = 256 from rfl, Nat.mul_add]; rw [Nat.mul_comm _ 256, Nat.mul_assoc, Nat.add_assoc]
theorem le_lt (a : List Int) (h : Byt a) : le a < 2 ^ (8 * a.length) := by
  induction a with
  | nil => simp [le]
  | cons c r ih =>
    have := ih (fun x hx => h x (by simp [hx]))
    have hc := h c (by simp)
    rw [le, List.length_cons, show 8 * (r.length + 1) = 8 * r.length + 8 from by omega, Nat.pow_add]
    have : c.toNat < 256 := by omega
    omega
theorem G_append (s : BitVec 32) (a b : List Int) (h : Byt a) : G s (le (a ++ b)) (8 * (a ++ b).length) = G (G s (le a) (8 * a.length)) (le b) (8 * b.length) := by
  rw [List.length_append, Nat.mul_add, G_more, le_append]
  congr 1
  · apply G_mod; rw [Nat.add_mul_mod_self_left]
  · rw [Nat.add_mul_div_left _ _ (Nat.two_pow_pos _), Nat.div_eq_of_lt (le_lt a h), Nat.zero_add]
theorem byt_take {l : List Int} (h : Byt l) (k : Nat) : Byt (l.take k) := fun x hx => h x (List.mem_of_mem_take hx)
theorem byt_drop {l : List Int} (h : Byt l) (k : Nat) : Byt (l.drop k) := fun x hx => h x (List.mem_of_mem_drop hx)

/-! The reference, bit by bit. -/
theorem ref_bit (k : Nat) (l : List Int) (s : BitVec 32) (i j : Int) (c m : Nat) (hi0 : 0 ≤ i) (hi : i < (l.length : Int)) (hm : j = m) (hm8 : m < 8) (hc : rd l i = c) (hc8 : c < 256) :
    counterpaneref02_Sum.l1 (k + 1) l (n s) i j = counterpaneref02_Sum.l1 k l (n (M (s ^^^ BitVec.ofNat 32 (c / 2 ^ m % 2)))) i (j + 1) := by
  subst hm
  have hw : IntKind.u64.wrap (m : Int) = m := by rw [IntKind.wrap]; simp [IntKind.bits, IntKind.signed]; omega
  have hw2 : wrap64 ((m : Int) + 1) = m + 1 := by unfold wrap64; omega
  have hs : shr .u8 (rd l i) (m : Int) % 4294967296 = n (BitVec.ofNat 32 (c / 2 ^ m)) := by
    have hd : c / 2 ^ m ≤ c := Nat.div_le_self _ _
    have hmin : min (m : Int).toNat IntKind.u8.bits = m := by simp [IntKind.bits]; omega
    have hq : ((c : Int) / 2 ^ m) = ((c / 2 ^ m : Nat) : Int) := by simp
    rw [hc, shr, hmin, hq, n_ofNat _ (by omega)]
    exact Int.emod_eq_of_lt (Int.natCast_nonneg _) (by omega)
  rw [counterpaneref02_Sum.l1, if_pos (by omega), if_pos hi0, if_pos hi, hw, if_pos (by omega), hw2, hs, n_and1, n_and1, n_half, n_poly]
  have hx : ∀ v w : BitVec 32, (n (v &&& 1#32) = n (w &&& 1#32)) ↔ v.getLsbD 0 = w.getLsbD 0 := by
    intro v w
    have h1 := n_bit v; have h2 := n_bit w
    have h3 : n (v &&& 1#32) = 0 ∨ n (v &&& 1#32) = 1 := by simp [n, Nat.and_one_is_mod]; omega
    have h4 : n (w &&& 1#32) = 0 ∨ n (w &&& 1#32) = 1 := by simp [n, Nat.and_one_is_mod]; omega
    cases hv : v.getLsbD 0 <;> cases hw : w.getLsbD 0 <;> simp only [hv, hw, Bool.false_eq_true, iff_false, iff_true, reduceCtorEq] at h1 h2 ⊢ <;> omega
  have hb : (BitVec.ofNat 32 (c / 2 ^ m)).getLsbD 0 = decide (c / 2 ^ m % 2 = 1) := by rw [BitVec.getLsbD_ofNat, Nat.testBit_zero]; simp
  have hM : M (s ^^^ BitVec.ofNat 32 (c / 2 ^ m % 2)) = (s >>> 1) ^^^ (if (s.getLsbD 0 != decide (c / 2 ^ m % 2 = 1)) then 0x82f63b78#32 else 0#32) := by
    unfold M
    rw [BitVec.ushiftRight_xor_distrib, BitVec.getLsbD_xor]
    have h0 : BitVec.ofNat 32 (c / 2 ^ m % 2) >>> 1 = 0#32 := by
      apply BitVec.eq_of_toNat_eq
      rw [BitVec.toNat_ushiftRight, BitVec.toNat_ofNat, Nat.shiftRight_eq_div_pow]
      simp; omega
    have h1 : (BitVec.ofNat 32 (c / 2 ^ m % 2)).getLsbD 0 = decide (c / 2 ^ m % 2 = 1) := by rw [BitVec.getLsbD_ofNat, Nat.testBit_zero]; simp
    rw [h0, h1, BitVec.xor_zero]
  rw [hM]
  by_cases h : n (BitVec.ofNat 32 (c / 2 ^ m) &&& 1#32) = n (s &&& 1#32)
  · rw [if_pos h]
    rw [hx, hb] at h
    simp [h]
  · rw [if_neg h]
    rw [hx, hb] at h
    have : (s.getLsbD 0 != decide (c / 2 ^ m % 2 = 1)) = true := by simp; exact fun e => h e.symm
    simp only [this, if_true]
theorem ref_byte (k : Nat) (l : List Int) (i : Int) (c : Nat) (hi0 : 0 ≤ i) (hi : i < (l.length : Int)) (hl : l.length ≤ 1073741824) (hc : rd l i = c) (hc8 : c < 256) (d : Nat) : ∀ (s : BitVec 32) (m : Nat), m + d = 8 →
    counterpaneref02_Sum.l1 (k + d + 1) l (n s) i (m : Int) = counterpaneref02_Sum.l0 k l (n (G s (c / 2 ^ m) d)) (i + 1) := by
  induction d with
  | zero =>
    intro s m hm
    have hw2 : wrap64 (i + 1) = i + 1 := by unfold wrap64; omega
    rw [counterpaneref02_Sum.l1, if_neg (by omega), hw2]; rfl
  | succ d ih =>
    intro s m hm
    rw [show k + (d + 1) + 1 = (k + d + 1) + 1 from by omega, ref_bit _ l s i m c m hi0 hi rfl (by omega) hc hc8, show (m : Int) + 1 = ((m + 1 : Nat) : Int) from by omega, ih _ (m + 1) (by omega)]
    simp only [G]
    rw [Nat.div_div_eq_div_mul, Nat.pow_succ]
theorem ref_sum (l : List Int) (h : Byt l) (hl : l.length ≤ 1073741824) (d : Nat) : ∀ (s : BitVec 32) (i : Nat), i + d = l.length →
    counterpaneref02_Sum.l0 (10 * d + 1) l (n s) i = some (n (~~~ (G s (le (l.drop i)) (8 * d)))) := by
  induction d with
  | zero =>
    intro s i hi
    rw [counterpaneref02_Sum.l0, if_neg (by omega)]
    congr 1
    simp only [G]
    simp [n, BitVec.toNat_not]
    have := s.isLt
    omega
  | succ d ih =>
    intro s i hi
    have hlt : i < l.length := by omega
    have hb := h l[i] (List.getElem_mem hlt)
    obtain ⟨c, hc⟩ : ∃ c : Nat, l[i] = c := ⟨l[i].toNat, by omega⟩
    have hrd : rd l (i : Int) = c := by simp [rd, hlt, hc]
    rw [show 10 * (d + 1) + 1 = ((10 * d + 1) + 8 + 1) + 1 from by omega, counterpaneref02_Sum.l0, if_pos (by omega), show (0 : Int) = ((0 : Nat) : Int) from rfl, ref_byte _ l i c (by omega) (by omega) hl hrd (by omega) 8 s 0 rfl, show (i : Int) + 1 = ((i + 1 : Nat) : Int) from by omega, ih _ (i + 1) (by omega)]
    rw [List.drop_eq_getElem_cons hlt, hc, show 8 * (d + 1) = 8 + 8 * d from by omega, G_more]
    have e1 : G s (le ((c : Int) :: l.drop (i + 1))) 8 = G s (c / 2 ^ 0) 8 := by
      apply G_mod; simp only [le, Int.toNat_natCast]; simp
    have e2 : le ((c : Int) :: l.drop (i + 1)) / 2 ^ 8 = le (l.drop (i + 1)) := by simp only [le, Int.toNat_natCast]; omega
    rw [e1, e2]
theorem ref_f (l : List Int) (h : Byt l) (hl : l.length ≤ 1073741824) : counterpaneref02_Sum.f (10 * l.length + 1) l = some (n (crc l)) := by
  rw [counterpaneref02_Sum.f, show (4294967295 : Int) = n (~~~ 0#32) from by kernel_rfl, show (0 : Int) = ((0 : Nat) : Int) from rfl, ref_sum l h hl l.length _ 0 (by omega)]
  rfl
theorem works_f : counterpanelaw02_works.f = some true := rfl
theorem byt_of {l : List Int} (h : ∀ x ∈ l, (Lit.int .u8 x).wf = true) : Byt l := by
  intro x hx
  have := h x hx
  simp [Lit.wf, IntKind.min, IntKind.max, IntKind.signed, IntKind.bits] at this
  omega
end Go.Proofs.Ytfdomnkiikklaaa.SealF
