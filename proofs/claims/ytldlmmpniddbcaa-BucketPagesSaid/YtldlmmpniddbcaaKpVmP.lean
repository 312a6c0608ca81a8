/- A logic of values over the model. Part P: numbers as bytes. -/
import Derived.Test.YtldlmmpniddbcaaKpVmN
set_option linter.unusedVariables false
set_option linter.unusedSimpArgs false
namespace Go.Vm
def I64 (x : Int) : Prop := -9223372036854775808 ≤ x ∧ x ≤ 9223372036854775807
def U64 (v : Int) : Prop := 0 ≤ v ∧ v < 18446744073709551616
def U32 (v : Int) : Prop := 0 ≤ v ∧ v < 4294967296
theorem tl_eq {b : Box} {m n : Nat} (h : b = .tail m) (e : m = n) : b = .tail n := by rw [h, e]
theorem Does.res {P : Program} {f : FuncId} {vs : List V} {pre up : List (Nat × Box)} {r r' : V} (h : Does P f vs pre up r) (hl : VLe r r') : Does P f vs pre up r' := fun n X args h1 h2 h3 h4 => (h n X args h1 h2 h3 h4).mono fun e w' ⟨X', u, g1, g2, g3, g4, g5, g6⟩ => ⟨X', u, g1, hl _ _ g2, g3, g4, g5, g6⟩
theorem uE {α : Type} {f : Nat → α} {k : Nat} {v : α} : upd f k v k = v := upd_eq f k v
theorem uN {α : Type} {f : Nat → α} {k i : Nat} {v b : α} (h : i ≠ k) (h2 : f i = b) : upd f k v i = b := (upd_ne f k v i h).trans h2
theorem bytes_nil : Byts [] := fun x h => by cases h
theorem bytes_app {a b : List Int} (ha : Byts a) (hb : Byts b) : Byts (a ++ b) := fun x h => (List.mem_append.1 h).elim (ha x) (hb x)
theorem bytes_take {r : List Int} (h : Byts r) (n : Nat) : Byts (r.take n) := fun x hx => h x (List.mem_of_mem_take hx)
theorem bytes_drop {r : List Int} (h : Byts r) (n : Nat) : Byts (r.drop n) := fun x hx => h x (List.mem_of_mem_drop hx)
theorem bytes_rep (n : Nat) {x : Int} (h : 0 ≤ x ∧ x < 256) : Byts (List.replicate n x) := fun y hy => by rw [List.eq_of_mem_replicate hy]; exact h
theorem bytes_one {x : Int} (h : 0 ≤ x ∧ x < 256) : Byts [x] := fun y hy => by rw [List.mem_singleton.1 hy]; exact h
theorem at_any {b : List Int} (hb : Byts b) (i : Int) : 0 ≤ at' b i ∧ at' b i < 256 := by
  unfold at'
  by_cases h : i.toNat < b.length
  · rw [List.getD, List.getElem?_eq_getElem h]; exact hb _ (List.getElem_mem _)
  · rw [List.getD, List.getElem?_eq_none (by omega)]; exact ⟨Int.le_refl _, by decide⟩
def beN (b : List Int) : Int := b.foldl (fun n c => n * 256 + c) 0
theorem beN_snoc (b : List Int) (c : Int) : beN (b ++ [c]) = beN b * 256 + c := by simp [beN]
theorem beN_take {b : List Int} {j : Nat} (h : j < b.length) : beN (b.take (j + 1)) = beN (b.take j) * 256 + at' b (j : Int) := by
  rw [at_nat _ _ h, List.take_add_one, List.getElem?_eq_getElem h]; exact beN_snoc _ _
theorem beN_lt : ∀ (j : Nat) (b : List Int), Byts b → j ≤ b.length → 0 ≤ beN (b.take j) ∧ beN (b.take j) < 256 ^ j
  | 0, b, _, _ => by simp [beN]
  | j + 1, b, hb, h => by
    obtain ⟨h1, h2⟩ := beN_lt j b hb (by omega)
    have h3 := hb _ (List.getElem_mem (show j < b.length by omega))
    rw [beN_take (by omega), at_nat _ _ (show j < b.length by omega)]
    have h4 : (256 : Int) ^ (j + 1) = 256 ^ j * 256 := rfl
    omega
theorem beN_8 {b : List Int} {j : Nat} (hb : Byts b) (hl : j ≤ b.length) (h : j < 8) : 0 ≤ beN (b.take j) ∧ beN (b.take j) < 72057594037927936 := by
  obtain ⟨h1, h2⟩ := beN_lt j b hb hl
  refine ⟨h1, Int.lt_of_lt_of_le h2 ?_⟩
  have h3 : 256 ^ j ≤ 256 ^ 7 := Nat.pow_le_pow_right (by decide) (by omega)
  have h5 : ((256 ^ j : Nat) : Int) ≤ ((256 ^ 7 : Nat) : Int) := Int.ofNat_le.2 h3
  have h6 : ((256 ^ 7 : Nat) : Int) = 72057594037927936 := by decide
  rw [h6] at h5
  rwa [Int.natCast_pow] at h5
/-- A number's low k Byts, the highest first. -/
def beB : Nat → Int → List Int
  | 0, _ => []
  | k + 1, v => beB k (v / 256) ++ [v % 256]
theorem beB_len : ∀ (k : Nat) (v : Int), (beB k v).length = k
  | 0, _ => rfl
  | k + 1, v => by simp [beB, beB_len k]
theorem beB_bytes : ∀ (k : Nat) (v : Int), Byts (beB k v)
  | 0, _ => fun x h => by cases h
  | k + 1, v => fun x h => by
    rcases List.mem_append.1 h with h | h
    · exact beB_bytes k _ x h
    · rw [List.mem_singleton] at h; subst h; omega
theorem beB_snoc (k : Nat) (v : Int) : bytesV (beB k (v / 256)) ++ [[.sc (.int .u8 (v % 256))]] = bytesV (beB (k + 1) v) := by
  simp [beB, bytesV, bV]
theorem wrap_u8 (x : Int) : IntKind.u8.wrap x = x % 256 := by unfold IntKind.wrap; simp [IntKind.signed, IntKind.bits]
/-- The Byts off the highest on. -/
theorem beB_cons : ∀ (k : Nat) (v : Int), beB (k + 1) v = (v / 256 ^ k % 256) :: beB k v
  | 0, v => by simp [beB]
  | k + 1, v => by
    rw [beB, beB_cons k (v / 256), beB]
    have : v / 256 / 256 ^ k = v / 256 ^ (k + 1) := by
      rw [Int.ediv_ediv, if_neg (by omega), Int.sub_zero, Int.pow_succ, Int.mul_comm]
    rw [this]; rfl
theorem beB_drop (k j : Nat) (v : Int) (h : j ≤ k) : (beB k v).drop (k - j) = beB j v := by
  induction k with
  | zero => have : j = 0 := by omega
            subst this; rfl
  | succ k ih =>
    by_cases hj : j = k + 1
    · subst hj; simp
    · rw [beB_cons, show k + 1 - j = (k - j) + 1 by omega, List.drop_succ_cons]
      exact ih (by omega)
theorem beB_step {k j : Nat} (v : Int) (h : j < k) : (beB k v).take (j + 1) = (beB k v).take j ++ [v / 256 ^ (k - 1 - j) % 256] := by
  have hl := beB_len k v
  rw [List.take_add_one]
  congr 1
  have h1 : (beB k v).drop j = beB (k - j) v := by have := beB_drop k (k - j) v (by omega); rwa [show k - (k - j) = j by omega] at this
  have h2 : (beB k v)[j]? = ((beB k v).drop j)[0]? := by rw [List.getElem?_drop]; rfl
  rw [h2, h1, show k - j = (k - 1 - j) + 1 by omega, beB_cons]
  rfl
theorem beB_high {v : Int} (hv : U64 v) (k : Nat) (h : 8 ≤ k) : v / 256 ^ k % 256 = 0 := by
  have h1 : (256 : Int) ^ 8 ≤ 256 ^ k := by
    have h3 : 256 ^ 8 ≤ 256 ^ k := Nat.pow_le_pow_right (by decide) h
    have := Int.ofNat_le.2 h3
    rwa [Int.natCast_pow, Int.natCast_pow] at this
  rw [Int.ediv_eq_zero_of_lt hv.1 (Int.lt_of_lt_of_le hv.2 h1)]; rfl
theorem shr_byte {v : Int} {i : Int} {m : Nat} (hi : i = 8 * (m : Int)) (hm : m ≤ 7) : v.fdiv (2 ^ (min i.toNat IntKind.u64.bits)) = v / 256 ^ m := by
  have e : min i.toNat IntKind.u64.bits = 8 * m := by show min i.toNat 64 = _; omega
  rw [e, Int.pow_mul, Int.fdiv_eq_ediv_of_nonneg _ (by
    have : (0 : Int) ≤ (2 ^ 8) ^ m := Int.pow_nonneg (by decide)
    exact this)]
  rfl
theorem beN_beB : ∀ (k : Nat) (v : Int), 0 ≤ v → v < 256 ^ k → beN (beB k v) = v
  | 0, v, h0, h1 => by
    have : v = 0 := by simp at h1; omega
    subst this; rfl
  | k + 1, v, h0, h1 => by
    have e : (256 : Int) ^ (k + 1) = 256 ^ k * 256 := rfl
    rw [beB, beN_snoc, beN_beB k (v / 256) (by omega) (by rw [e] at h1; omega)]
    omega
end Go.Vm
namespace Go.Vm
theorem vle_osl {e k : Nat} {a b : List (List V)} (h : a = b) : VLe (.own e a k) (.sl e b) := by rw [h]; exact VLe.own_sl _ _ _
theorem vle_own {e k : Nat} {a b : List (List V)} (h : a = b) : VLe (.own e a k) (.own e b k) := by rw [h]; exact VLe.refl _
theorem at_mem {α : Type} [Inhabited α] {xs : List α} {i : Int} (h0 : 0 ≤ i) (h : i < xs.length) : at' xs i ∈ xs := by
  obtain ⟨j, rfl⟩ : ∃ j : Nat, i = j := ⟨i.toNat, by omega⟩
  rw [at_nat _ _ (by omega)]; exact List.getElem_mem _
/-- A text's field. -/
def fieldB (s : ByteArray) (m : Nat) : List Int := [(s.size : Int)] ++ sB s ++ List.replicate (m - 1 - s.size) 0
theorem fieldB_len {s : ByteArray} {m : Nat} (h : s.size < m) : (fieldB s m).length = m := by simp [fieldB, sB_len]; omega
theorem fieldB_byts {s : ByteArray} {m : Nat} (h : s.size < 256) : Byts (fieldB s m) := bytes_app (bytes_app (bytes_one ⟨by omega, by omega⟩) (sB_bytes s)) (bytes_rep _ (by omega))
end Go.Vm
namespace Go.Vm
end Go.Vm
