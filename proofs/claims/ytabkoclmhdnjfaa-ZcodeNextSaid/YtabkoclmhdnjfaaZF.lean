/- What the functions of zcode compute, over plain numbers: the place of a point, the point of a place, who comes ahead; and the same for the reference. No condition but the sizes that the theorems name. -/
import Derived.Test.YtabkoclmhdnjfaaPAllx
import Derived.Test.YtabkoclmhdnjfaaZ
import Derived.Laws.BitsAllLaws
namespace Go.Proofs.Ytabkoclmhdnjfaa.ZF
open Go.RowKit Go.Proofs.Ytabkoclmhdnjfaa.PAll Go.Proofs.Ytabkoclmhdnjfaa.Z Go.Proofs.YtabkoclmhdnjfaaW.PrintWords Go.Proofs.YtabkoclmhdnjfaaW.PrintLast Go.Proofs.YtabkoclmhdnjfaaW.PrintMore

/-- The value of a nest, as a number. -/
abbrev D (v : Nat) (e : E) : Int := ((e.den v : Nat) : Int)
theorem and_lt (a m : Nat) (hm : m < 18446744073709551616) : a &&& m < 18446744073709551616 := Nat.lt_of_le_of_lt Nat.and_le_right hm
theorem or_lt (a b : Nat) (ha : a < 18446744073709551616) (hb : b < 18446744073709551616) : a ||| b < 18446744073709551616 :=
  Nat.or_lt_two_pow (n := 64) ha hb
theorem D_mul (v : Nat) (e : E) (s : Nat) (c : Int) (hc : c = ((2 ^ s : Nat) : Int)) : IntKind.u64.wrap (D v e * c) = D v (mul e s) := by
  rw [hc, IntKind.wrap_u64, D, D, mul, E.den, E.den, Nat.shiftLeft_eq]
  have := Nat.and_two_pow_sub_one_eq_mod (e.den v * 2 ^ s) 64
  rw [show (18446744073709551615 : Nat) = 2 ^ 64 - 1 from rfl, this]
  simp
theorem D_shr (v : Nat) (e : E) (s : Nat) (c : Int) (hc : c = ((2 ^ s : Nat) : Int)) : D v e / c = D v (.shr e s) := by
  rw [hc, D, D, E.den, Nat.shiftRight_eq_div_pow]; simp
theorem D_step (v : Nat) (e f : E) (m : Nat) (he : e.den v < 18446744073709551616) (hf : f.den v < 18446744073709551616) (hm : m < 18446744073709551616) :
    Go.bits .and .u64 (Go.bits .or .u64 (D v e) (D v f)) (m : Int) = D v (.and (.or e f) m) := by
  rw [D, D, u64_or_nat _ _ he hf, u64_and_nat _ _ (or_lt _ _ he hf) hm]; rfl
theorem spread_v (x : Nat) (hx : x < 4294967296) : zcode_spread.v x = (sp 32 x : Nat) := by
  rw [zcode_spread.v, ← spread_den x hx]
  have e0 : IntKind.u64.wrap (x : Int) = D x (.x 32) := by rw [IntKind.wrap_u64, D, E.den]; omega
  have l0 : (E.x 32).den x < 18446744073709551616 := by simp only [E.den]; omega
  rw [e0]
  have st (e : E) (s m : Nat) (c : Int) (hc : c = ((2 ^ s : Nat) : Int)) (he : e.den x < 18446744073709551616) (hm : m < 18446744073709551616) :
      Go.bits .and .u64 (Go.bits .or .u64 (D x e) (IntKind.u64.wrap (D x e * c))) (m : Int) = D x (.and (.or e (mul e s)) m) := by
    rw [D_mul x e s c hc]
    exact D_step x e (mul e s) m he (and_lt _ _ (by decide)) hm
  rw [zcode_spread.g0, show (281470681808895 : Int) = ((281470681808895 : Nat) : Int) from rfl, st (.x 32) 16 281470681808895 65536 rfl l0 (by decide)]
  rw [zcode_spread.g1, show (71777214294589695 : Int) = ((71777214294589695 : Nat) : Int) from rfl, st _ 8 71777214294589695 256 rfl (and_lt _ _ (by decide)) (by decide)]
  rw [zcode_spread.g2, show (1085102592571150095 : Int) = ((1085102592571150095 : Nat) : Int) from rfl, st _ 4 1085102592571150095 16 rfl (and_lt _ _ (by decide)) (by decide)]
  rw [zcode_spread.g3, show (3689348814741910323 : Int) = ((3689348814741910323 : Nat) : Int) from rfl, st _ 2 3689348814741910323 4 rfl (and_lt _ _ (by decide)) (by decide)]
  rw [zcode_spread.g4, show (6148914691236517205 : Int) = ((6148914691236517205 : Nat) : Int) from rfl, st _ 1 6148914691236517205 2 rfl (and_lt _ _ (by decide)) (by decide)]
  rfl
theorem shr_lt (v : Nat) (e : E) (s : Nat) (h : e.den v < 18446744073709551616) : (E.shr e s).den v < 18446744073709551616 := by
  rw [E.den, Nat.shiftRight_eq_div_pow]; exact Nat.lt_of_le_of_lt (Nat.div_le_self _ _) h
theorem gather_v (z : Nat) (hz : z < 18446744073709551616) : zcode_gather.v z = (ga 32 z : Nat) := by
  rw [zcode_gather.v, ← gather_den z hz]
  have e0 : Go.bits .and .u64 (z : Int) 6148914691236517205 = D z (.and (.x 64) 6148914691236517205) := by
    exact u64_and_nat z 6148914691236517205 hz (by decide)
  rw [e0]
  have st (e : E) (s m : Nat) (c : Int) (hc : c = ((2 ^ s : Nat) : Int)) (he : e.den z < 18446744073709551616) (hm : m < 18446744073709551616) :
      Go.bits .and .u64 (Go.bits .or .u64 (D z e) (D z e / c)) (m : Int) = D z (.and (.or e (.shr e s)) m) := by
    rw [D_shr z e s c hc]
    exact D_step z e (.shr e s) m he (shr_lt _ _ _ he) hm
  rw [zcode_gather.g0, show (3689348814741910323 : Int) = ((3689348814741910323 : Nat) : Int) from rfl, st _ 1 3689348814741910323 2 rfl (and_lt _ _ (by decide)) (by decide)]
  rw [zcode_gather.g1, show (1085102592571150095 : Int) = ((1085102592571150095 : Nat) : Int) from rfl, st _ 2 1085102592571150095 4 rfl (and_lt _ _ (by decide)) (by decide)]
  rw [zcode_gather.g2, show (71777214294589695 : Int) = ((71777214294589695 : Nat) : Int) from rfl, st _ 4 71777214294589695 16 rfl (and_lt _ _ (by decide)) (by decide)]
  rw [zcode_gather.g3, show (281470681808895 : Int) = ((281470681808895 : Nat) : Int) from rfl, st _ 8 281470681808895 256 rfl (and_lt _ _ (by decide)) (by decide)]
  rw [zcode_gather.g4, show (4294967295 : Int) = ((4294967295 : Nat) : Int) from rfl, st _ 16 4294967295 65536 rfl (and_lt _ _ (by decide)) (by decide)]
  have : ∀ e : E, D z e % 4294967296 = D z (.and e 4294967295) := by
    intro e
    rw [D, D, E.den]
    have := Nat.and_two_pow_sub_one_eq_mod (e.den z) 32
    rw [show (4294967295 : Nat) = 2 ^ 32 - 1 from rfl, this]
    simp
  rw [this]
  rfl

theorem nat_u32 {a : Int} (h : (Lit.int .u32 a).wf = true) : ∃ n : Nat, a = n ∧ n < 4294967296 := by
  simp [Lit.wf, IntKind.min, IntKind.max, IntKind.signed, IntKind.bits] at h
  exact ⟨a.toNat, by omega, by omega⟩
theorem nat_u64 {a : Int} (h : (Lit.int .u64 a).wf = true) : ∃ n : Nat, a = n ∧ n < 18446744073709551616 := by
  simp [Lit.wf, IntKind.min, IntKind.max, IntKind.signed, IntKind.bits] at h
  exact ⟨a.toNat, by omega, by omega⟩
/-! the functions -/
theorem wrap64_in (n : Int) (h : -9223372036854775808 ≤ n ∧ n ≤ 9223372036854775807) : wrap64 n = n := by unfold wrap64; omega
theorem sp32_lt (x : Nat) : 3 * sp 32 x < 18446744073709551616 := sp_lt 32 x
theorem zc32_lt (x y : Nat) : zc 32 x y < 18446744073709551616 := zc_lt 32 x y
theorem ga32_lt (z : Nat) : ga 32 z < 4294967296 := ga_lt 32 z
theorem code_f (x y : Nat) (hx : x < 4294967296) (hy : y < 4294967296) : zcode_Code.f x y = some ((zc 32 x y : Nat) : Int) := by
  have h1 := sp32_lt x
  have h2 := sp32_lt y
  rw [zcode_Code.f, zcode_spread.f, zcode_spread.f, Option.bind_some, Option.bind_some, spread_v x hx, spread_v y hy]
  have e : IntKind.u64.wrap (((sp 32 y : Nat) : Int) * 2) = ((sp 32 y * 2 : Nat) : Int) := by rw [IntKind.wrap_u64]; omega
  rw [e, u64_or_nat _ _ (by omega) (by omega), or_sp]
theorem point_f (z : Nat) (hz : z < 18446744073709551616) : zcode_Point.f z = some (((ga 32 z : Nat) : Int), ((ga 32 (z / 2) : Nat) : Int)) := by
  have e : (z : Int) / 2 = ((z / 2 : Nat) : Int) := by omega
  rw [zcode_Point.f, zcode_gather.f, zcode_gather.f, Option.bind_some, Option.bind_some, e, gather_v z hz, gather_v (z / 2) (by omega)]
theorem ga_code {x y : Nat} (hx : x < 4294967296) : ga 32 (zc 32 x y) = x := by rw [ga_zc]; exact Nat.mod_eq_of_lt hx
theorem ga_code' {x y : Nat} (hy : y < 4294967296) : ga 32 (zc 32 x y / 2) = y := by rw [ga_zc']; exact Nat.mod_eq_of_lt hy
theorem code_ga {z : Nat} (hz : z < 18446744073709551616) : zc 32 (ga 32 z) (ga 32 (z / 2)) = z := zc_ga 32 z hz

/-! the reference -/
theorem bit_f (a i : Nat) (ha : a < 18446744073709551616) (hi : i < 64) : counterpaneref24_bit.f a i = some ((a / 2 ^ i % 2 : Nat) : Int) := by
  have e : IntKind.u64.wrap (i : Int) = i := by rw [IntKind.wrap_u64]; omega
  rw [counterpaneref24_bit.f, e, if_pos (by omega), shr]
  have : min ((i : Int).toNat) IntKind.u64.bits = i := by simp [IntKind.bits]; omega
  rw [this, Int.tmod_eq_emod_of_nonneg (Int.ediv_nonneg (by omega) (Int.pow_nonneg (by omega)))]
  norm_cast
def pw (i : Nat) : Nat := 2 ^ i
theorem ref_code_l (x y : Nat) (hx : x < 4294967296) (hy : y < 4294967296) (i : Nat) : ∀ k : Nat, i ≤ 32 → i + 1 ≤ k →
    counterpaneref24_Code.l0 k x y ((zc (32 - i) (x / pw i) (y / pw i) : Nat) : Int) ((i : Int) - 1) = some ((zc 32 x y : Nat) : Int) := by
  induction i with
  | zero =>
    intro k _ hk
    obtain ⟨k, rfl⟩ : ∃ m, k = m + 1 := ⟨k - 1, by omega⟩
    rw [counterpaneref24_Code.l0, if_neg (by omega)]
    simp [pw]
  | succ i ih =>
    intro k hi hk
    obtain ⟨k, rfl⟩ : ∃ m, k = m + 1 := ⟨k - 1, by omega⟩
    have hlt : zc (32 - (i + 1)) (x / pw (i + 1)) (y / pw (i + 1)) < 4 ^ 31 :=
      Nat.lt_of_lt_of_le (zc_lt _ _ _) (Nat.pow_le_pow_right (by omega) (by omega))
    have hd : ∀ a, a / pw (i + 1) = a / pw i / 2 := fun a => by rw [pw, pw, Nat.pow_succ, Nat.div_div_eq_div_mul]
    have hz : zc (32 - i) (x / pw i) (y / pw i) = 4 * zc (32 - (i + 1)) (x / pw (i + 1)) (y / pw (i + 1)) + 2 * (y / pw i % 2) + x / pw i % 2 := by
      rw [show 32 - i = 32 - (i + 1) + 1 by omega, zc_succ, hd, hd]
    have e0 : ((i + 1 : Nat) : Int) - 1 = i := by omega
    have wx : IntKind.u64.wrap (x : Int) = x := by rw [IntKind.wrap_u64]; omega
    have wy : IntKind.u64.wrap (y : Int) = y := by rw [IntKind.wrap_u64]; omega
    rw [counterpaneref24_Code.l0, e0, if_pos (by omega), wx, wy, bit_f y i (by omega) (by omega), Option.bind_some, bit_f x i (by omega) (by omega), Option.bind_some]
    have e1 : wrap64 ((i : Int) - 1) = (i : Int) - 1 := wrap64_in _ (by omega)
    rw [e1]
    have e2 : IntKind.u64.wrap (IntKind.u64.wrap (IntKind.u64.wrap (4 * ((zc (32 - (i + 1)) (x / pw (i + 1)) (y / pw (i + 1)) : Nat) : Int)) + IntKind.u64.wrap (2 * ((y / 2 ^ i % 2 : Nat) : Int))) + ((x / 2 ^ i % 2 : Nat) : Int))
      = ((zc (32 - i) (x / pw i) (y / pw i) : Nat) : Int) := by
      rw [hz]
      simp only [IntKind.wrap_u64]
      rw [show (2 : Nat) ^ i = pw i from rfl]
      have := Nat.mod_lt (y / pw i) (y := 2) (by omega)
      have := Nat.mod_lt (x / pw i) (y := 2) (by omega)
      omega
    rw [e2]
    exact ih k (by omega) (by omega)
theorem ref_code_f (k x y : Nat) (hk : 33 ≤ k) (hx : x < 4294967296) (hy : y < 4294967296) : counterpaneref24_Code.f k x y = some ((zc 32 x y : Nat) : Int) := by
  have := ref_code_l x y hx hy 32 k (by omega) (by omega)
  exact this
def qw (i : Nat) : Nat := 4 ^ i
theorem ref_point_l (z : Nat) (hz : z < 18446744073709551616) (i : Nat) : ∀ k : Nat, i ≤ 32 → i + 1 ≤ k →
    counterpaneref24_Point.l0 k z ((ga (32 - i) (z / qw i) : Nat) : Int) ((ga (32 - i) (z / qw i / 2) : Nat) : Int) ((i : Int) - 1) = some (((ga 32 z : Nat) : Int), ((ga 32 (z / 2) : Nat) : Int)) := by
  induction i with
  | zero =>
    intro k _ hk
    obtain ⟨k, rfl⟩ : ∃ m, k = m + 1 := ⟨k - 1, by omega⟩
    rw [counterpaneref24_Point.l0, if_neg (by omega)]
    have c : ∀ a : Nat, a < 4294967296 → cvt .u32 (a : Int) = a := fun a h => by simp only [cvt]; omega
    rw [c _ (ga32_lt _), c _ (ga32_lt _)]
    simp only [qw, Nat.pow_zero, Nat.div_one, Nat.sub_zero]
  | succ i ih =>
    intro k hi hk
    obtain ⟨k, rfl⟩ : ∃ m, k = m + 1 := ⟨k - 1, by omega⟩
    have hlt : ∀ a, ga (32 - (i + 1)) a < 2 ^ 31 := fun a =>
      Nat.lt_of_lt_of_le (ga_lt _ _) (Nat.pow_le_pow_right (by omega) (by omega))
    have hd : z / qw (i + 1) = z / qw i / 4 := by rw [qw, qw, Nat.pow_succ, Nat.div_div_eq_div_mul]
    have hg : ∀ a, ga (32 - i) a = a % 2 + 2 * ga (32 - (i + 1)) (a / 4) := by
      intro a
      rw [show 32 - i = 32 - (i + 1) + 1 by omega, ga]
    have e0 : ((i + 1 : Nat) : Int) - 1 = i := by omega
    have e3 : wrap64 (2 * (i : Int)) = ((2 * i : Nat) : Int) := by rw [wrap64_in _ (by omega)]; omega
    have e4 : wrap64 (((2 * i : Nat) : Int) + 1) = ((2 * i + 1 : Nat) : Int) := by rw [wrap64_in _ (by omega)]; omega
    rw [counterpaneref24_Point.l0, e0, if_pos (by omega), e3, e4, bit_f z (2 * i) hz (by omega), Option.bind_some, bit_f z (2 * i + 1) hz (by omega), Option.bind_some]
    have e1 : wrap64 ((i : Int) - 1) = (i : Int) - 1 := wrap64_in _ (by omega)
    have p1 : (2 : Nat) ^ (2 * i) = qw i := by rw [qw, Nat.pow_mul]
    have p2 : z / 2 ^ (2 * i + 1) = z / qw i / 2 := by rw [Nat.pow_succ, p1, Nat.div_div_eq_div_mul]
    rw [e1, p1, p2]
    have e2 : IntKind.u64.wrap (IntKind.u64.wrap (2 * ((ga (32 - (i + 1)) (z / qw (i + 1)) : Nat) : Int)) + ((z / qw i % 2 : Nat) : Int)) = ((ga (32 - i) (z / qw i) : Nat) : Int) := by
      have := hlt (z / qw i / 4)
      rw [hg, hd]
      simp only [IntKind.wrap_u64]
      omega
    have e5 : IntKind.u64.wrap (IntKind.u64.wrap (2 * ((ga (32 - (i + 1)) (z / qw (i + 1) / 2) : Nat) : Int)) + ((z / qw i / 2 % 2 : Nat) : Int)) = ((ga (32 - i) (z / qw i / 2) : Nat) : Int) := by
      have h4 : z / qw i / 4 / 2 = z / qw i / 2 / 4 := by omega
      have := hlt (z / qw i / 2 / 4)
      rw [hg, hd, h4]
      simp only [IntKind.wrap_u64]
      omega
    rw [e2, e5]
    exact ih k (by omega) (by omega)
theorem ref_point_f (k z : Nat) (hk : 33 ≤ k) (hz : z < 18446744073709551616) : counterpaneref24_Point.f k z = some (((ga 32 z : Nat) : Int), ((ga 32 (z / 2) : Nat) : Int)) := by
  have := ref_point_l z hz 32 k (by omega) (by omega)
  have e : z / qw 32 = 0 := Nat.div_eq_of_lt hz
  rw [e] at this
  exact this

/-! who comes ahead -/
theorem less_f (ax ay bx b : Nat) (h1 : ax < 4294967296) (h2 : ay < 4294967296) (h3 : bx < 4294967296) (h4 : b < 4294967296) :
    zcode_Less.f ax ay bx b = some (decide (zc 32 ax ay < zc 32 bx b)) := by
  have hx : (ax ^^^ bx) < 4294967296 := Nat.xor_lt_two_pow (n := 32) h1 h3
  have hy : (ay ^^^ b) < 4294967296 := Nat.xor_lt_two_pow (n := 32) h2 h4
  have h := (less 32 ax ay bx b h1 h2 h3 h4).1
  rw [zcode_Less.f, u32_xor_nat ax bx h1 h3, u32_xor_nat ay b h2 h4, u32_xor_nat _ _ hx hy]
  unfold P at h
  by_cases p : (ay ^^^ b) < (ax ^^^ bx)
  · rw [if_pos (by omega)]
    by_cases q : (ay ^^^ b) < ((ax ^^^ bx) ^^^ (ay ^^^ b))
    · rw [if_pos (by omega)]
      have := h.1 ⟨p, q⟩
      simp only [Option.some.injEq, decide_eq_decide, Int.ofNat_lt]; exact this.symm
    · rw [if_neg (by omega)]
      have := h.2 (fun w => q w.2)
      simp only [Option.some.injEq, decide_eq_decide, Int.ofNat_lt]; exact this.symm
  · rw [if_neg (by omega)]
    have := h.2 (fun w => p w.1)
    simp only [Option.some.injEq, decide_eq_decide, Int.ofNat_lt]; exact this.symm

theorem works0 : counterpanelaw24_works.f 90 = some true := by kernel_rfl
theorem works_f (k : Nat) (hk : 90 ≤ k) : counterpanelaw24_works.f k = some true := at_rounds (g := fun k => counterpanelaw24_works.f k) (fun k => counterpanelaw24_works.mono k) hk works0

end Go.Proofs.Ytabkoclmhdnjfaa.ZF
