/- Texts of the walk by hand, merged. -/
import Derived.Test.YtnhkpolfkmpldaaH2
import Derived.Test.YtnhkpolfkmpldaaH1
import Derived.Test.YtnhkpolfkmpldaaPAllx12
import Derived.Test.YtnhkpolfkmpldaaPAllx24
import Derived.Test.YtnhkpolfkmpldaaPAllx2
import Derived.Test.YtnhkpolfkmpldaaPAllx25
import Derived.Test.YtnhkpolfkmpldaaPAllx39
import Derived.Test.YtnhkpolfkmpldaaPAllx1
import Derived.Test.YtnhkpolfkmpldaaOpens2
/- Numbers and texts as bytes, there and back (plain). -/
namespace Go.Proofs.Ytnhkpolfkmpldaa.PAll
open Go.RowKit Go.Proofs.YtnhkpolfkmpldaaW.PrintWords Go.Proofs.YtnhkpolfkmpldaaW.PrintLast Go.Proofs.YtnhkpolfkmpldaaW.PrintMore
set_option linter.unusedVariables false
set_option linter.unusedSimpArgs false

theorem u64_wrap (m : Int) : IntKind.u64.wrap m = m % 18446744073709551616 := by simp [IntKind.wrap, IntKind.bits, IntKind.signed]
theorem getL_snoc (n : Int) (xs : List Int) (c : Int) (h : 0 ≤ c ∧ c < 256) : getL n (xs ++ [c]) = (getL n xs * 256 + c) % 18446744073709551616 := by
  have e : getL n (xs ++ [c]) = Go.bits .or .u64 (IntKind.u64.wrap (getL n xs * 256)) (IntKind.u64.wrap c) := by simp [getL]
  rw [e, or_byte _ _ h.1 h.2, u64_wrap, u64_wrap, u64_wrap]
  omega
theorem getN_short {xs : List Int} (h : xs.length ≤ 8) : getN xs = getL 0 xs := by
  unfold getN
  rw [show xs.length - 8 = 0 by omega]
  rfl
theorem getL_putB (n : Int) : ∀ k, k ≤ 8 → getL 0 (putB n k) = n % 256 ^ k
  | 0, _ => by simp [putB, getL]
  | k + 1, h => by
    have ih := getL_putB (n / 256) k (by omega)
    rw [putB_snoc, getL_snoc _ _ _ (by omega), ih]
    clear ih
    have hk : k = 0 ∨ k = 1 ∨ k = 2 ∨ k = 3 ∨ k = 4 ∨ k = 5 ∨ k = 6 ∨ k = 7 := by omega
    rcases hk with rfl | rfl | rfl | rfl | rfl | rfl | rfl | rfl <;> omega
theorem getN_putB (n : Int) (k : Nat) (h : k ≤ 8) (h0 : 0 ≤ n) (h1 : n < 256 ^ k) : getN (putB n k) = n := by
  rw [getN_short (by rw [putB_length]; exact h), getL_putB n k h, Int.emod_eq_of_lt h0 h1]
theorem getL_bound : ∀ (k : Nat) (xs : List Int), xs.length = k → k ≤ 8 → Bytes xs → 0 ≤ getL 0 xs ∧ getL 0 xs < 256 ^ k ∧ putB (getL 0 xs) k = xs
  | 0, xs, hl, _, _ => by
    obtain rfl := List.eq_nil_of_length_eq_zero hl
    exact ⟨by decide, by decide, rfl⟩
  | k + 1, xs, hl, hk, hb => by
    obtain ⟨ys, c, rfl⟩ : ∃ ys c, xs = ys ++ [c] := ⟨xs.dropLast, xs.getLast (by intro e; rw [e] at hl; cases hl), (List.dropLast_concat_getLast _).symm⟩
    have hc : 0 ≤ c ∧ c < 256 := hb c (by simp)
    obtain ⟨h0, h1, h2⟩ := getL_bound k ys (by simpa using hl) (by omega) (fun x hx => hb x (by simp [hx]))
    rw [getL_snoc _ _ _ hc]
    have e : (getL 0 ys * 256 + c) % 18446744073709551616 = getL 0 ys * 256 + c := by
      clear h2 hl hb
      have hkk : k = 0 ∨ k = 1 ∨ k = 2 ∨ k = 3 ∨ k = 4 ∨ k = 5 ∨ k = 6 ∨ k = 7 := by omega
      rcases hkk with rfl | rfl | rfl | rfl | rfl | rfl | rfl | rfl <;> omega
    rw [e]
    refine ⟨by omega, ?_, ?_⟩
    · rw [Int.pow_succ]
      generalize (256 : Int) ^ k = P at h1 ⊢
      omega
    · rw [putB_snoc, show (getL 0 ys * 256 + c) / 256 = getL 0 ys by omega, h2, show (getL 0 ys * 256 + c) % 256 = c by omega]
theorem putB_getN (xs : List Int) (k : Nat) (hl : xs.length = k) (hk : k ≤ 8) (hb : Bytes xs) : 0 ≤ getN xs ∧ getN xs < 256 ^ k ∧ putB (getN xs) k = xs := by
  rw [getN_short (by omega)]
  exact getL_bound k xs hl hk hb
/-- What was put as a number is read as that number. -/
theorem nextN_put (n : Int) (k : Nat) (hk : k ≤ 8) (h0 : 0 ≤ n) (h1 : n < 256 ^ k) (r : List Int) : nextN (putB n k ++ r, false) k = (n, r, false) := by
  unfold nextN
  simp only
  rw [take_enc _ _ _ (putB_length n k)]
  simp only
  rw [getN_putB n k hk h0 h1]
theorem takeF_ok {s : Rest} {k : Nat} {r : List Int} {p : List Int} (h : takeF s.1 s.2 k = (p, r, false)) : s.2 = false ∧ s.1 = p ++ r ∧ p.length = k := by
  unfold takeF at h
  split at h
  · cases h
  · rename_i hn
    have hl : ¬ (k : Int) > s.1.length := fun h => hn (.inr (.inr h))
    injection h with h1 h2
    injection h2 with h2 h3
    rw [Int.toNat_natCast] at h1 h2
    refine ⟨?_, by rw [← h1, ← h2, List.take_append_drop], by rw [← h1, List.length_take]; omega⟩
    cases hs : s.2
    · rfl
    · exact absurd (.inl hs) hn
/-- Bytes that were read as a number are that number's. -/
theorem nextN_back {s : Rest} {k : Nat} {v : Int} {r : List Int} (hk : k ≤ 8) (hb : Bytes s.1) (h : nextN s k = (v, r, false)) : s = (putB v k ++ r, false) ∧ Bytes r ∧ 0 ≤ v ∧ v < 256 ^ k := by
  unfold nextN at h
  obtain ⟨h1, h2⟩ := Prod.mk.inj h
  obtain ⟨p, hp⟩ : ∃ p, takeF s.1 s.2 k = (p, r, false) := ⟨(takeF s.1 s.2 k).1, by rw [← h2]⟩
  obtain ⟨e1, e2, e3⟩ := takeF_ok hp
  rw [hp] at h1
  simp only at h1
  have hbp : Bytes p := fun x hx => hb x (by rw [e2]; simp [hx])
  obtain ⟨g0, g1, g2⟩ := putB_getN p k e3 hk hbp
  rw [h1] at g0 g1 g2
  refine ⟨?_, fun x hx => hb x (by rw [e2]; simp [hx]), g0, g1⟩
  rw [g2, ← e2, ← e1]
theorem nextS_eq (s : Rest) {v : Int} {r : List Int} (h : nextS s = (v, r, false)) : ∃ u, nextN s (4 : Nat) = (u, r, false) ∧ v = u % 4294967296 := by
  unfold nextS small at h
  obtain ⟨h1, h2⟩ := Prod.mk.inj h
  exact ⟨_, by unfold nextN; rw [show ((4 : Nat) : Int) = 4 from rfl, ← h2], h1.symm⟩
theorem nextS_back {s : Rest} {v : Int} {r : List Int} (hb : Bytes s.1) (h : nextS s = (v, r, false)) : s = (putB v 4 ++ r, false) ∧ Bytes r ∧ 0 ≤ v ∧ v < 4294967296 := by
  obtain ⟨u, hu, hv⟩ := nextS_eq s h
  obtain ⟨h1, h2, h3, h4⟩ := nextN_back (by decide) hb hu
  have : v = u := by omega
  subst this
  exact ⟨h1, h2, h3, by omega⟩
theorem nextS_put (n : Int) (h0 : 0 ≤ n) (h1 : n < 4294967296) (r : List Int) : nextS (putB n 4 ++ r, false) = (n, r, false) := by
  have h := nextN_put n 4 (by decide) h0 (by omega) r
  unfold nextN at h
  unfold nextS small
  obtain ⟨e1, e2⟩ := Prod.mk.inj h
  rw [show ((4 : Nat) : Int) = 4 from rfl] at e1 e2
  rw [e1, e2]
  congr 1
  omega
theorem field_fieldOf' (s : ByteArray) (n : Nat) (h : s.size < n) : fieldF (fieldOf s n) = some (bytesOf s) := by
  have hl := fieldOf_length s n h
  have h0 : rd (fieldOf s n) 0 = s.size := by simp [fieldOf, rd]
  unfold fieldF
  rw [hl, h0, if_neg (by omega), Int.toNat_natCast]
  have e : fieldOf s n = ([(s.size : Int)] ++ bytesOf s) ++ List.replicate (n - 1 - s.size) 0 := by simp [fieldOf]
  have el : ([(s.size : Int)] ++ bytesOf s).length = 1 + s.size := by simp [bytesOf_length]; omega
  rw [e, List.drop_left' el, List.take_left' el]
  have hn : noughts (List.replicate (n - 1 - s.size) 0) = true := by simp [noughts]
  rw [if_pos hn]
  rfl
theorem nextT_put (s : ByteArray) (n : Nat) (h : s.size < n) (r : List Int) : nextT (fieldOf s n ++ r, false) n = (s, r, false) := by
  unfold nextT textF
  simp only
  rw [take_enc _ _ _ (fieldOf_length s n h)]
  rw [textG_some (field_fieldOf' s n h)]
  simp only
  rw [strOfNums_bytesOf]
theorem bytesOf_strOfNums {xs : List Int} (h : Bytes xs) : bytesOf (strOfNums xs) = xs := by
  unfold bytesOf strOfNums
  simp only [List.map_map]
  conv => rhs; rw [← List.map_id xs]
  refine List.map_congr_left fun x hx => ?_
  have := h x hx
  simp only [Function.comp, id]
  have e : (UInt8.ofNat x.toNat).toNat = x.toNat := by simp; omega
  rw [e]
  omega
theorem noughts_replicate : ∀ {xs : List Int}, noughts xs = true → xs = List.replicate xs.length 0
  | [], _ => rfl
  | x :: xs, h => by
    unfold noughts at h
    rw [List.all_cons, Bool.and_eq_true] at h
    rw [List.length_cons, List.replicate_succ, ← noughts_replicate (xs := xs) h.2]
    have := h.1
    simp at this
    rw [this]
theorem fieldF_back {p s : List Int} {n : Nat} (hl : p.length = n) (hb : Bytes p) (hn : n ≤ 256) (h : fieldF p = some s) : p = fieldOf (strOfNums s) n ∧ Bytes s ∧ s.length < n := by
  unfold fieldF at h
  split at h
  · cases h
  · rename_i hq
    split at h
    · rename_i hz
      obtain rfl := Option.some.inj h
      cases p with
      | nil => simp at hq
      | cons c p =>
        have hr : rd (c :: p) 0 = c := rfl
        rw [hr] at hq hz ⊢
        have hc := hb c List.mem_cons_self
        have hbp : Bytes p := fun x hx => hb x (List.mem_cons_of_mem _ hx)
        obtain ⟨m, rfl⟩ : ∃ m : Nat, c = m := ⟨c.toNat, by omega⟩
        simp only [Int.toNat_natCast] at hz ⊢
        have e1 : (List.take (1 + m) ((m : Int) :: p)).drop 1 = p.take m := by rw [Nat.add_comm]; rfl
        have e2 : ((m : Int) :: p).drop (1 + m) = p.drop m := by rw [Nat.add_comm]; rfl
        rw [e1]
        rw [e2] at hz
        have hm : m < n := by
          have : ¬ (m : Int) ≥ ((m : Int) :: p).length := fun h => hq (.inr h)
          rw [hl] at this
          omega
        have hpl : p.length = n - 1 := by rw [List.length_cons] at hl; omega
        have hbt : Bytes (p.take m) := fun x hx => hbp x (List.mem_of_mem_take hx)
        have ht : (p.take m).length = m := by rw [List.length_take]; omega
        refine ⟨?_, hbt, by omega⟩
        unfold fieldOf
        rw [bytesOf_strOfNums hbt, strOfNums_size, ht]
        have hd := noughts_replicate hz
        rw [List.length_drop, hpl] at hd
        rw [Int.toNat_natCast, ← hd, List.append_assoc, List.take_append_drop]
        rfl
    · cases h
theorem nextT_back {s : Rest} {n : Nat} {v : ByteArray} {r : List Int} (hn : n ≤ 256) (hb : Bytes s.1) (h : nextT s n = (v, r, false)) : s = (fieldOf v n ++ r, false) ∧ Bytes r ∧ v.size < n := by
  unfold nextT textF at h
  obtain ⟨h1, h2⟩ := Prod.mk.inj h
  generalize ht : takeF s.1 s.2 n = t at h1 h2
  obtain ⟨p, q, b⟩ := t
  cases b with
  | true => rw [textG_bad] at h2; cases h2
  | false =>
    cases hf : fieldF p with
    | none => rw [textG_none hf] at h2; cases h2
    | some x =>
      rw [textG_some hf] at h1 h2
      simp only at h1 h2
      obtain ⟨rfl, _⟩ := Prod.mk.inj h2
      obtain ⟨e1, e2, e3⟩ := takeF_ok ht
      have hbp : Bytes p := fun y hy => hb y (by rw [e2]; simp [hy])
      obtain ⟨g1, g2, g3⟩ := fieldF_back e3 hbp hn hf
      subst h1
      refine ⟨?_, fun y hy => hb y (by rw [e2]; simp [hy]), by rw [strOfNums_size]; exact g3⟩
      rw [← g1, ← e2, ← e1]
theorem nextN_bad {s : Rest} {k : Int} {v : Int} {t : Rest} (h : nextN s k = (v, t)) (ht : t.2 = false) : s.2 = false := by
  obtain ⟨_, rfl⟩ := Prod.mk.inj h
  unfold takeF at ht
  split at ht
  · cases ht
  · rename_i hn
    cases hs : s.2
    · rfl
    · exact absurd (.inl hs) hn
end Go.Proofs.Ytnhkpolfkmpldaa.PAll

/- Ops as bytes, there and back (plain). -/
namespace Go.Proofs.Ytnhkpolfkmpldaa.PAll
open Go.RowKit Go.Proofs.YtnhkpolfkmpldaaW.PrintWords Go.Proofs.YtnhkpolfkmpldaaW.PrintLast Go.Proofs.YtnhkpolfkmpldaaW.PrintMore
set_option linter.unusedVariables false
set_option linter.unusedSimpArgs false

def i64 (n : Int) : Prop := -9223372036854775808 ≤ n ∧ n < 9223372036854775808
def u64 (n : Int) : Prop := 0 ≤ n ∧ n < 18446744073709551616
def u32 (n : Int) : Prop := 0 ≤ n ∧ n < 4294967296
def okOp : OpT → Prop | (k, key, x, y, v, p0, p1, p2, p3, n) => i64 k ∧ u64 key ∧ u32 x ∧ u32 y ∧ u32 p0 ∧ u32 p1 ∧ u32 p2 ∧ u32 p3 ∧ i64 n
def bodyT : OpT → List Int | (k, key, x, y, v, p0, p1, p2, p3, n) => opBody k key x y v p0 p1 p2 p3 n
def valT : OpT → ByteArray | (k, key, x, y, v, p0, p1, p2, p3, n) => v
/-- An op's bytes and code. -/
def encT (o : OpT) : List Int := if textC (valT o) 16 = 0 then bodyT o ++ sum4 (bodyT o) else []
theorem textC_16 {s : ByteArray} : textC s 16 = 0 ↔ s.size < 16 := by
  unfold textC
  rw [if_neg (by decide)]
  split
  · constructor
    · intro h; cases h
    · omega
  · constructor
    · omega
    · intro _; rfl
theorem wrap_wrap {n : Int} (h : i64 n) : wrap64 (IntKind.u64.wrap n) = n := by
  rw [u64_wrap]
  unfold i64 at h
  unfold wrap64
  omega
theorem u64_of (n : Int) : 0 ≤ IntKind.u64.wrap n ∧ IntKind.u64.wrap n < 256 ^ 8 := by
  rw [u64_wrap]
  omega
theorem wrap_u64 {n : Int} (h : u64 n) : IntKind.u64.wrap (wrap64 n) = n := by
  rw [u64_wrap]
  unfold u64 at h
  unfold wrap64
  omega
theorem i64_wrap (n : Int) : i64 (wrap64 n) := by unfold i64 wrap64; omega
theorem body_parts (k key x y : Int) (v : ByteArray) (p0 p1 p2 p3 n : Int) (r : List Int) : opBody k key x y v p0 p1 p2 p3 n ++ r = putB (IntKind.u64.wrap k) 8 ++ (putB key 8 ++ (putB x 4 ++ (putB y 4 ++ (putB p0 4 ++ (putB p1 4 ++ (putB p2 4 ++ (putB p3 4 ++ (fieldOf v 16 ++ (putB (IntKind.u64.wrap n) 8 ++ r))))))))) := by
  simp [opBody, opHead, fours, six]
theorem parse_put (o : OpT) (h : okOp o) (hv : (valT o).size < 16) : parseOp (bodyT o, false) = (o, [], false) := by
  obtain ⟨k, key, x, y, v, p0, p1, p2, p3, n⟩ := o
  obtain ⟨h1, h2, h3, h4, h5, h6, h7, h8, h9⟩ := h
  unfold bodyT parseOp
  have hb := body_parts k key x y v p0 p1 p2 p3 n []
  rw [List.append_nil] at hb
  simp only [hb]
  have e1 := fun r => nextN_put (IntKind.u64.wrap k) 8 (by decide) (u64_of k).1 (u64_of k).2 r
  have e2 := fun r => nextN_put key 8 (by decide) h2.1 h2.2 r
  have e9 := fun r => nextT_put v 16 hv r
  have e10 := fun r => nextN_put (IntKind.u64.wrap n) 8 (by decide) (u64_of n).1 (u64_of n).2 r
  simp only [show ((8 : Nat) : Int) = 8 from rfl] at e1 e2 e10
  simp only [show ((16 : Nat) : Int) = 16 from rfl] at e9
  simp only [e1, e2, nextS_put x h3.1 h3.2, nextS_put y h4.1 h4.2, nextS_put p0 h5.1 h5.2, nextS_put p1 h6.1 h6.2, nextS_put p2 h7.1 h7.2, nextS_put p3 h8.1 h8.2, e9, e10, wrap_wrap h1, wrap_wrap h9]
theorem textF_bad (xs : List Int) (n : Int) : textF xs true n = ([], xs, true) := by
  unfold textF takeF
  rw [if_pos (.inl rfl), textG_bad]
theorem nextS_bad {s : Rest} {v : Int} {t : Rest} (h : nextS s = (v, t)) (ht : t.2 = false) : s.2 = false := by
  obtain ⟨_, rfl⟩ := Prod.mk.inj h
  exact nextN_bad (s := s) (k := 4) rfl ht
theorem nextT_bad {s : Rest} {k : Int} {v : ByteArray} {t : Rest} (h : nextT s k = (v, t)) (ht : t.2 = false) : s.2 = false := by
  obtain ⟨_, rfl⟩ := Prod.mk.inj h
  cases hs : s.2
  · rfl
  · rw [hs, textF_bad] at ht
    cases ht
theorem parse_back (xs : List Int) (hb : Bytes xs) (o : OpT) (h : parseOp (xs, false) = (o, [], false)) : okOp o ∧ (valT o).size < 16 ∧ bodyT o = xs := by
  unfold parseOp at h
  obtain ⟨k, t1, e1⟩ : ∃ k t, nextN (xs, false) 8 = (k, t) := ⟨_, _, rfl⟩
  obtain ⟨key, t2, e2⟩ : ∃ k t, nextN t1 8 = (k, t) := ⟨_, _, rfl⟩
  obtain ⟨x, t3, e3⟩ : ∃ k t, nextS t2 = (k, t) := ⟨_, _, rfl⟩
  obtain ⟨y, t4, e4⟩ : ∃ k t, nextS t3 = (k, t) := ⟨_, _, rfl⟩
  obtain ⟨p0, t5, e5⟩ : ∃ k t, nextS t4 = (k, t) := ⟨_, _, rfl⟩
  obtain ⟨p1, t6, e6⟩ : ∃ k t, nextS t5 = (k, t) := ⟨_, _, rfl⟩
  obtain ⟨p2, t7, e7⟩ : ∃ k t, nextS t6 = (k, t) := ⟨_, _, rfl⟩
  obtain ⟨p3, t8, e8⟩ : ∃ k t, nextS t7 = (k, t) := ⟨_, _, rfl⟩
  obtain ⟨v, t9, e9⟩ : ∃ k t, nextT t8 16 = (k, t) := ⟨_, _, rfl⟩
  obtain ⟨n, t10, e10⟩ : ∃ k t, nextN t9 8 = (k, t) := ⟨_, _, rfl⟩
  simp only [e1, e2, e3, e4, e5, e6, e7, e8, e9, e10] at h
  obtain ⟨rfl, rfl⟩ := Prod.mk.inj h
  have b9 := nextN_bad e10 rfl
  have b8 := nextT_bad e9 b9
  have b7 := nextS_bad e8 b8
  have b6 := nextS_bad e7 b7
  have b5 := nextS_bad e6 b6
  have b4 := nextS_bad e5 b5
  have b3 := nextS_bad e4 b4
  have b2 := nextS_bad e3 b3
  have b1 := nextN_bad e2 b2
  obtain ⟨t1, _⟩ := t1; obtain rfl : _ = false := b1
  obtain ⟨t2, _⟩ := t2; obtain rfl : _ = false := b2
  obtain ⟨t3, _⟩ := t3; obtain rfl : _ = false := b3
  obtain ⟨t4, _⟩ := t4; obtain rfl : _ = false := b4
  obtain ⟨t5, _⟩ := t5; obtain rfl : _ = false := b5
  obtain ⟨t6, _⟩ := t6; obtain rfl : _ = false := b6
  obtain ⟨t7, _⟩ := t7; obtain rfl : _ = false := b7
  obtain ⟨t8, _⟩ := t8; obtain rfl : _ = false := b8
  obtain ⟨t9, _⟩ := t9; obtain rfl : _ = false := b9
  obtain ⟨g1, c1, r1⟩ := nextN_back (k := 8) (by decide) hb e1
  obtain ⟨g2, c2, r2⟩ := nextN_back (k := 8) (by decide) c1 e2
  obtain ⟨g3, c3, r3⟩ := nextS_back c2 e3
  obtain ⟨g4, c4, r4⟩ := nextS_back c3 e4
  obtain ⟨g5, c5, r5⟩ := nextS_back c4 e5
  obtain ⟨g6, c6, r6⟩ := nextS_back c5 e6
  obtain ⟨g7, c7, r7⟩ := nextS_back c6 e7
  obtain ⟨g8, c8, r8⟩ := nextS_back c7 e8
  obtain ⟨g9, c9, r9⟩ := nextT_back (n := 16) (by decide) c8 e9
  obtain ⟨g10, c10, r10⟩ := nextN_back (k := 8) (by decide) c9 e10
  refine ⟨⟨i64_wrap k, ⟨r2.1, by omega⟩, r3, r4, r5, r6, r7, r8, i64_wrap n⟩, r9, ?_⟩
  have hbp := body_parts (wrap64 k) key x y v p0 p1 p2 p3 (wrap64 n) []
  rw [List.append_nil] at hbp
  unfold bodyT
  simp only
  rw [hbp, wrap_u64 ⟨r1.1, by omega⟩, wrap_u64 ⟨r10.1, by omega⟩]
  simp only [Prod.mk.injEq, and_true] at g1 g2 g3 g4 g5 g6 g7 g8 g9 g10
  rw [g1, g2, g3, g4, g5, g6, g7, g8, g9, g10]
  rfl
end Go.Proofs.Ytnhkpolfkmpldaa.PAll

/- Op and Answer as bytes are the chapter's (plain). -/
namespace Go.Proofs.Ytnhkpolfkmpldaa.PAll
open Go.RowKit Go.Proofs.YtnhkpolfkmpldaaW.PrintWords Go.Proofs.YtnhkpolfkmpldaaW.PrintLast Go.Proofs.YtnhkpolfkmpldaaW.PrintMore
set_option linter.unusedVariables false
set_option linter.unusedSimpArgs false

theorem seal_byt {xs : List Int} (h : Bytes xs) (hl : xs.length ≤ 536870912) : sum4 xs = SealF.q (SealF.crc xs) := by
  have h1 := seal_put_f xs (by omega)
  rw [SealF.put_f xs h hl] at h1
  exact (List.append_cancel_left (Option.some.inj h1)).symm
theorem rseal (k : Nat) {xs : List Int} (h : Bytes xs) (hl : xs.length ≤ 10000) (hk : 200000 ≤ k) : counterpaneref02_Put.f k xs = some (xs ++ sum4 xs) := by
  rw [SealF.rput_f k xs h (by omega) (by omega), seal_byt h (by omega)]
theorem bytes_append {a b : List Int} (ha : Bytes a) (hb : Bytes b) : Bytes (a ++ b) := fun x hx => (List.mem_append.1 hx).elim (ha x) (hb x)
theorem fieldOf_bytes (s : ByteArray) (n : Int) (h : s.size < 256) : Bytes (fieldOf s n) := by
  refine bytes_append (bytes_append (fun x hx => ?_) (bytesOf_bytes s)) (fun x hx => ?_)
  · rw [List.mem_singleton.1 hx]; omega
  · rw [(List.mem_replicate.1 hx).2]; omega
theorem body_bytes (k key x y : Int) (v : ByteArray) (p0 p1 p2 p3 n : Int) (h : v.size < 256) : Bytes (opBody k key x y v p0 p1 p2 p3 n) := by
  have e := body_parts k key x y v p0 p1 p2 p3 n []
  rw [List.append_nil] at e
  rw [e]
  have hp := fun m j => putB_bytes m j
  exact bytes_append (hp _ _) (bytes_append (hp _ _) (bytes_append (hp _ _) (bytes_append (hp _ _) (bytes_append (hp _ _) (bytes_append (hp _ _) (bytes_append (hp _ _) (bytes_append (hp _ _) (bytes_append (fieldOf_bytes _ _ h) (bytes_append (hp _ _) (fun x hx => by cases hx))))))))))
theorem body_length (k key x y : Int) (v : ByteArray) (p0 p1 p2 p3 n : Int) (h : v.size < 16) : (opBody k key x y v p0 p1 p2 p3 n).length = 64 := by
  have e := body_parts k key x y v p0 p1 p2 p3 n []
  rw [List.append_nil] at e
  have hf := fieldOf_length v 16 h
  simp only [Int.cast_ofNat_Int] at hf
  rw [e]
  simp only [List.length_append, putB_length, hf, List.length_nil]
theorem rput (k : Nat) (n : Int) (m : Nat) (h : u64 n) (hm : m ≤ 8) (hk : 9 ≤ k) : counterpaneref01_Put.f k n (m : Int) = some (putB n m) :=
  at_rounds (g := fun k => counterpaneref01_Put.f k n (m : Int)) (fun k => counterpaneref01_Put.mono n m k) (by omega) (refput_f m n h.1 h.2 hm)
theorem wput (k : Nat) (xs : List Int) (n : Int) (m : Nat) (h1 : 1 ≤ m) (hm : m ≤ 8) (hl : xs.length < 900000000) (hk : 9 ≤ k) : word_Put_uint64.f k xs n (m : Int) = some (xs ++ putB n m) :=
  at_rounds (g := fun k => word_Put_uint64.f k xs n (m : Int)) (fun k => word_Put_uint64.mono xs n m k) hk (put_f n m xs h1 hm hl)
theorem wput4 (k : Nat) (xs : List Int) (n : Int) (m : Nat) (h : u64 n) (h1 : 1 ≤ m) (hm : m ≤ 4) (hl : xs.length < 900000000) (hk : 9 ≤ k) : word_Put_uint32.f k xs n (m : Int) = some (xs ++ putB n m) :=
  at_rounds (g := fun k => word_Put_uint32.f k xs n (m : Int)) (fun k => word_Put_uint32.mono xs n m k) hk (put4_f n h m xs h1 hm hl)
theorem wrap_u (n : Int) : u64 (IntKind.u64.wrap n) := by rw [u64_wrap]; unfold u64; omega
theorem wrap_id {n : Int} (h : u64 n) : IntKind.u64.wrap n = n := by rw [u64_wrap]; unfold u64 at h; omega
theorem u32_u64 {n : Int} (h : u32 n) : u64 n := ⟨h.1, by have := h.2; omega⟩
theorem rtext (s : ByteArray) (hs : s.size ≤ 100) : ∃ k0, ∀ k, k0 ≤ k → counterpaneref01_Text.f k s 16 = some (if textC s 16 = 0 then fieldOf s 16 else [], textC s 16) := by
  obtain ⟨k0, h⟩ := ref_text_f s 16 (by omega) (by omega)
  exact ⟨k0, fun k hk => at_rounds (g := fun k => counterpaneref01_Text.f k s 16) (fun k => counterpaneref01_Text.mono s 16 k) hk h⟩
/-- A record as bytes, and the code. -/
def recB (r : S54) : List Int := putB r.f1 8 ++ (putB r.f2 4 ++ (putB r.f3 4 ++ fieldOf r.f4 16))
def recC (r : S54) : Int := if r.f0 ≠ 0 ∨ r.f5 = true then 1 else textC r.f4 16
def recsB (l : List S54) : List Int := l.flatMap recB
def recsC : List S54 → Int
  | [] => 0
  | r :: l => if recC r = 0 then recsC l else recC r
def okRec (r : S54) : Prop := u64 r.f0 ∧ u64 r.f1 ∧ u32 r.f2 ∧ u32 r.f3
def ansCode (a : AnsT) : Int := if a.code < 0 ∨ a.code > 14 ∨ a.n < 0 then 2 else if 200 < a.recs.length then 13 else recsC a.recs
def ansBody (a : AnsT) : List Int := [a.code % 256] ++ (putB (IntKind.u64.wrap a.n) 8 ++ ([(a.recs.length : Int) % 256] ++ recsB a.recs))
def encA (a : AnsT) : List Int := if ansCode a = 0 then ansBody a ++ sum4 (ansBody a) else []
theorem recB_length {r : S54} (h : recC r = 0) : (recB r).length = 32 := by
  unfold recC at h
  split at h
  · cases h
  · have hf := fieldOf_length r.f4 16 (textC_16.1 h)
    simp only [Int.cast_ofNat_Int] at hf
    simp only [recB, List.length_append, putB_length, hf]
theorem recB_bytes {r : S54} (h : recC r = 0) : Bytes (recB r) := by
  unfold recC at h
  split at h
  · cases h
  · have := textC_16.1 h
    exact bytes_append (putB_bytes _ _) (bytes_append (putB_bytes _ _) (bytes_append (putB_bytes _ _) (fieldOf_bytes _ _ (by omega))))
theorem recsC_cons {r : S54} {l : List S54} (h : recsC (r :: l) = 0) : recC r = 0 ∧ recsC l = 0 := by
  unfold recsC at h
  split at h
  · rename_i h1; exact ⟨h1, h⟩
  · rename_i h1; exact absurd h h1
theorem recsB_length : ∀ {l : List S54}, recsC l = 0 → (recsB l).length = 32 * l.length
  | [], _ => rfl
  | r :: l, h => by
    obtain ⟨h1, h2⟩ := recsC_cons h
    have := recsB_length h2
    unfold recsB at *
    rw [List.flatMap_cons, List.length_append, this, recB_length h1, List.length_cons]
    omega
theorem recsB_bytes : ∀ {l : List S54}, recsC l = 0 → Bytes (recsB l)
  | [], _ => fun x hx => by cases hx
  | r :: l, h => by
    obtain ⟨h1, h2⟩ := recsC_cons h
    unfold recsB
    rw [List.flatMap_cons]
    exact bytes_append (recB_bytes h1) (recsB_bytes h2)
theorem rd_at {l : List S54} {i : Nat} (h : i < l.length) : rd_T54 l (i : Int) = l[i] := by
  simp [rd_T54, List.getD_eq_getElem?_getD, List.getElem?_eq_getElem h]
theorem wtext (k : Nat) (xs : List Int) (s : ByteArray) (hl : xs.length < 900000000) (hk : 1 ≤ k) : word_Text.f k xs s 16 = some (if textC s 16 = 0 then xs ++ fieldOf s 16 else [], textC s 16) := by
  obtain ⟨j, rfl⟩ : ∃ j, k = j + 1 := ⟨k - 1, by omega⟩
  by_cases hs : s.size < 1000000000
  · exact word_text_f j xs s 16 (by omega) hs (by omega)
  · have h3 : (s.size : Int) ≥ 16 := by omega
    unfold word_Text.f
    rw [if_neg (by omega), word_Text.j0, if_neg (by decide), if_pos h3, textC_9 (by decide) h3]
    rfl
theorem ans_l0 (l : List S54) (hok : ∀ r ∈ l, okRec r) (hl : l.length ≤ 300) : ∀ (m i : Nat) (acc : List Int), i + m = l.length → acc.length + 32 * m < 100000 → Bytes acc →
    parcel_Answer.l0 (2 * m + 20) acc l (l.length : Int) (i : Int) = some (if recsC (l.drop i) = 0 then (acc ++ recsB (l.drop i)) ++ sum4 (acc ++ recsB (l.drop i)) else [], recsC (l.drop i))
  | 0, i, acc, h, ha, hb => by
    have hd : l.drop i = [] := List.drop_of_length_le (by omega)
    rw [parcel_Answer.l0, if_neg (by omega), seal_put_f _ (by omega), hd]
    simp [recsC, recsB]
  | m + 1, i, acc, h, ha, hb => by
    have hi : i < l.length := by omega
    have hd : l.drop i = l[i] :: l.drop (i + 1) := List.drop_eq_getElem_cons hi
    have ho := hok _ (List.getElem_mem hi)
    have e1 : wrap64 ((i : Int) + 1) = ((i + 1 : Nat) : Int) := by unfold wrap64; omega
    rw [show 2 * (m + 1) + 20 = (2 * m + 20 + 1) + 1 by omega, parcel_Answer.l0, if_pos (by omega), if_pos (by omega), if_pos (by omega), rd_at hi, hd]
    have key : ∀ b, (b = true ↔ l[i].f0 ≠ 0 ∨ l[i].f5 = true) → parcel_Answer.j2 (2 * m + 20 + 1) acc l (l.length : Int) (i : Int) b l[i].f0 l[i].f1 l[i].f2 l[i].f3 l[i].f4 l[i].f5 = some (if recsC (l[i] :: l.drop (i + 1)) = 0 then (acc ++ recsB (l[i] :: l.drop (i + 1))) ++ sum4 (acc ++ recsB (l[i] :: l.drop (i + 1))) else [], recsC (l[i] :: l.drop (i + 1))) := by
      intro b hbb
      generalize l[i] = r at ho hbb
      rw [parcel_Answer.j2]
      by_cases hbt : b = true
      · have hc : recC r = 1 := by unfold recC; rw [if_pos (hbb.1 hbt)]
        rw [if_pos hbt, recsC, if_neg (by omega), if_neg (by omega), hc]
      · have hc : recC r = textC r.f4 16 := by unfold recC; rw [if_neg (fun h => hbt (hbb.2 h))]
        rw [if_neg hbt]
        have E1 := wput (2 * m + 20) acc r.f1 8 (by decide) (by decide) (by omega) (by omega)
        have E2 := wput4 (2 * m + 20) (acc ++ putB r.f1 8) r.f2 4 (u32_u64 ho.2.2.1) (by decide) (by decide) (by rw [List.length_append, putB_length]; omega) (by omega)
        have E3 := wput4 (2 * m + 20) (acc ++ putB r.f1 8 ++ putB r.f2 4) r.f3 4 (u32_u64 ho.2.2.2) (by decide) (by decide) (by rw [List.length_append, List.length_append, putB_length, putB_length]; omega) (by omega)
        have E4 := wtext (2 * m + 20) (acc ++ putB r.f1 8 ++ putB r.f2 4 ++ putB r.f3 4) r.f4 (by simp only [List.length_append, putB_length]; omega) (by omega)
        simp only [show ((8 : Nat) : Int) = 8 from rfl, show ((4 : Nat) : Int) = 4 from rfl] at E1 E2 E3
        rw [E1, Option.bind_some, E2, Option.bind_some, E3, Option.bind_some, E4, Option.bind_some]
        by_cases ht : textC r.f4 16 = 0
        · have hc0 : recC r = 0 := by rw [hc, ht]
          have ea : acc ++ putB r.f1 8 ++ putB r.f2 4 ++ putB r.f3 4 ++ fieldOf r.f4 16 = acc ++ recB r := by simp [recB]
          have hl2 := recB_length hc0
          simp only [if_pos ht]
          rw [e1, ea, ans_l0 l hok hl m (i + 1) _ (by omega) (by rw [List.length_append, hl2]; omega) (bytes_append hb (recB_bytes hc0))]
          rw [show recsC (r :: l.drop (i + 1)) = recsC (l.drop (i + 1)) by rw [recsC, if_pos hc0], show recsB (r :: l.drop (i + 1)) = recB r ++ recsB (l.drop (i + 1)) by simp [recsB]]
          simp only [List.append_assoc]
        · have hc0 : ¬ recC r = 0 := by rw [hc]; exact ht
          simp only [if_neg ht]
          rw [show recsC (r :: l.drop (i + 1)) = recC r by rw [recsC, if_neg hc0], if_neg hc0, hc]
    by_cases h0 : l[i].f0 = 0
    · rw [if_pos h0]
      exact key _ ⟨fun h => .inr h, fun h => h.elim (fun h => absurd h0 h) id⟩
    · rw [if_neg h0]
      exact key _ ⟨fun _ => .inl h0, fun _ => rfl⟩
theorem ans_f (a : AnsT) (hok : ∀ r ∈ a.recs, okRec r) : ∃ K, parcel_Answer.f K a.code a.recs a.n = some (encA a, ansCode a) := by
  obtain ⟨c, l, n⟩ := a
  refine ⟨2 * l.length + 20 + 1, ?_⟩
  unfold parcel_Answer.f
  simp only
  have bad : parcel_Answer.j0 (2 * l.length + 20 + 1) true c l n = some ([], 2) := by rw [parcel_Answer.j0, if_pos rfl]
  have enc0 : ∀ x, ansCode ⟨c, l, n⟩ = x → ¬ x = 0 → encA ⟨c, l, n⟩ = [] := fun x h1 h2 => by unfold encA; rw [h1, if_neg h2]
  by_cases h1 : c < 0
  · have hc : ansCode ⟨c, l, n⟩ = 2 := by unfold ansCode; rw [if_pos (Or.inl h1)]
    rw [if_pos h1, bad, enc0 2 hc (by decide), hc]
  by_cases h2 : c > 14
  · have hc : ansCode ⟨c, l, n⟩ = 2 := by unfold ansCode; rw [if_pos (Or.inr (Or.inl h2))]
    rw [if_neg h1, if_pos h2, bad, enc0 2 hc (by decide), hc]
  by_cases h3 : n < 0
  · have hc : ansCode ⟨c, l, n⟩ = 2 := by unfold ansCode; rw [if_pos (Or.inr (Or.inr h3))]
    rw [if_neg h1, if_neg h2, decide_eq_true h3, bad, enc0 2 hc (by decide), hc]
  have h0 : ¬ (c < 0 ∨ c > 14 ∨ n < 0) := by omega
  rw [if_neg h1, if_neg h2, decide_eq_false h3, parcel_Answer.j0, if_neg (by decide)]
  by_cases h4 : (l.length : Int) > 200
  · have hc : ansCode ⟨c, l, n⟩ = 13 := by unfold ansCode; rw [if_neg h0, if_pos (by show 200 < l.length; omega)]
    rw [if_pos h4, enc0 13 hc (by decide), hc]
  · have hc : ansCode ⟨c, l, n⟩ = recsC l := by unfold ansCode; rw [if_neg h0, if_neg (by show ¬ 200 < l.length; omega)]
    rw [if_neg h4]
    have E1 := wput (2 * l.length + 20) [c % 256] (IntKind.u64.wrap n) 8 (by decide) (by decide) (by show 1 < 900000000; decide) (by omega)
    simp only [show ((8 : Nat) : Int) = 8 from rfl] at E1
    rw [E1, Option.bind_some, if_pos (by rw [List.length_append, putB_length, List.length_singleton]; omega)]
    have := ans_l0 l hok (by omega) l.length 0 ([c % 256] ++ putB (IntKind.u64.wrap n) 8 ++ [(l.length : Int) % 256]) (by omega) (by simp only [List.length_append, putB_length, List.length_singleton]; omega) (bytes_append (bytes_append (fun x hx => by rw [List.mem_singleton.1 hx]; omega) (putB_bytes _ _)) (fun x hx => by rw [List.mem_singleton.1 hx]; omega))
    rw [show ((0 : Nat) : Int) = 0 from rfl] at this
    rw [this, List.drop_zero]
    unfold encA
    rw [hc]
    simp only [ansBody, List.append_assoc]
theorem rtexts : ∀ (l : List S54), (∀ r ∈ l, r.f4.size ≤ 100) → ∃ k0, ∀ r ∈ l, ∀ k, k0 ≤ k → counterpaneref01_Text.f k r.f4 16 = some (if textC r.f4 16 = 0 then fieldOf r.f4 16 else [], textC r.f4 16)
  | [], _ => ⟨0, fun r h => by cases h⟩
  | r :: l, h => by
    obtain ⟨k1, h1⟩ := rtext r.f4 (h r List.mem_cons_self)
    obtain ⟨k2, h2⟩ := rtexts l (fun r hr => h r (List.mem_cons_of_mem _ hr))
    refine ⟨k1 + k2, fun x hx k hk => ?_⟩
    rcases List.mem_cons.1 hx with rfl | hx
    · exact h1 k (by omega)
    · exact h2 x hx k (by omega)
end Go.Proofs.Ytnhkpolfkmpldaa.PAll

/- Answers as bytes, there and back; what is sealed (plain). -/
namespace Go.Proofs.Ytnhkpolfkmpldaa.PAll
open Go.RowKit Go.Proofs.YtnhkpolfkmpldaaW.PrintWords Go.Proofs.YtnhkpolfkmpldaaW.PrintLast Go.Proofs.YtnhkpolfkmpldaaW.PrintMore
set_option linter.unusedVariables false
set_option linter.unusedSimpArgs false

theorem one_byte (c : Int) (h : 0 ≤ c ∧ c < 256) : [c % 256] = putB c 1 := by simp [putB]
theorem recC_zero {r : S54} (h : recC r = 0) : r.f0 = 0 ∧ r.f5 = false ∧ r.f4.size < 16 := by
  unfold recC at h
  split at h
  · cases h
  · rename_i hn
    refine ⟨?_, ?_, textC_16.1 h⟩
    · exact Decidable.byContradiction fun e => hn (.inl e)
    · cases hf : r.f5
      · rfl
      · exact absurd (.inr hf) hn
theorem recC_mk {r : S54} (h0 : r.f0 = 0) (h5 : r.f5 = false) (h4 : r.f4.size < 16) : recC r = 0 := by
  unfold recC
  rw [if_neg (by rw [h0, h5]; simp), textC_16]
  exact h4
theorem nextR_put (r : S54) (hc : recC r = 0) (ho : okRec r) (rest : List Int) : nextR (recB r ++ rest, false) = (r, rest, false) := by
  obtain ⟨h0, h5, h4⟩ := recC_zero hc
  unfold nextR recB
  have e1 := fun x => nextN_put r.f1 8 (by decide) ho.2.1.1 ho.2.1.2 x
  have e2 := fun x => nextN_put r.f2 4 (by decide) ho.2.2.1.1 (by have := ho.2.2.1.2; omega) x
  have e3 := fun x => nextN_put r.f3 4 (by decide) ho.2.2.2.1 (by have := ho.2.2.2.2; omega) x
  have e4 := fun x => nextT_put r.f4 16 h4 x
  simp only [show ((8 : Nat) : Int) = 8 from rfl, show ((4 : Nat) : Int) = 4 from rfl, show ((16 : Nat) : Int) = 16 from rfl] at e1 e2 e3 e4
  simp only [List.append_assoc, e1, e2, e3, e4]
  have g2 : r.f2 % 4294967296 = r.f2 := by have := ho.2.2.1; unfold u32 at this; omega
  have g3 : r.f3 % 4294967296 = r.f3 := by have := ho.2.2.2; unfold u32 at this; omega
  rw [g2, g3, ← h0, ← h5]
theorem recs_put : ∀ (l : List S54) (rest : List Int) (acc : List S54), recsC l = 0 → (∀ r ∈ l, okRec r) → recsGo l.length (recsB l ++ rest, false) acc = (acc ++ l, rest, false)
  | [], rest, acc, _, _ => by simp [recsGo, recsB]
  | r :: l, rest, acc, hc, ho => by
    obtain ⟨h1, h2⟩ := recsC_cons hc
    have e : recsB (r :: l) ++ rest = recB r ++ (recsB l ++ rest) := by simp [recsB]
    rw [List.length_cons, recsGo, if_neg (by simp), e, nextR_put r h1 (ho r List.mem_cons_self)]
    rw [recs_put l rest _ h2 (fun x hx => ho x (List.mem_cons_of_mem _ hx))]
    simp
theorem recsGo_bad : ∀ (k : Nat) {t : Rest} {acc res : List S54} {r : List Int}, recsGo k t acc = (res, r, false) → t.2 = false
  | 0, t, acc, res, r, h => by
    rw [recsGo] at h
    rw [(Prod.mk.inj h).2]
  | k + 1, t, acc, res, r, h => by
    rw [recsGo] at h
    split at h
    · rw [(Prod.mk.inj h).2]
    · rename_i hn
      cases ht : t.2
      · rfl
      · exact absurd ht hn
theorem nextR_back {t : Rest} {x : S54} {r : List Int} (hb : Bytes t.1) (h : nextR t = (x, r, false)) : t = (recB x ++ r, false) ∧ Bytes r ∧ okRec x ∧ recC x = 0 := by
  unfold nextR at h
  obtain ⟨a1, s1, e1⟩ : ∃ k s, nextN t 8 = (k, s) := ⟨_, _, rfl⟩
  obtain ⟨a2, s2, e2⟩ : ∃ k t, nextN s1 4 = (k, t) := ⟨_, _, rfl⟩
  obtain ⟨a3, s3, e3⟩ : ∃ k t, nextN s2 4 = (k, t) := ⟨_, _, rfl⟩
  obtain ⟨a4, s4, e4⟩ : ∃ k t, nextT s3 16 = (k, t) := ⟨_, _, rfl⟩
  simp only [e1, e2, e3, e4] at h
  obtain ⟨rfl, rfl⟩ := Prod.mk.inj h
  have b3 := nextT_bad e4 rfl
  have b2 := nextN_bad e3 b3
  have b1 := nextN_bad e2 b2
  obtain ⟨s1, _⟩ := s1; obtain rfl : _ = false := b1
  obtain ⟨s2, _⟩ := s2; obtain rfl : _ = false := b2
  obtain ⟨s3, _⟩ := s3; obtain rfl : _ = false := b3
  obtain ⟨g1, c1, r1⟩ := nextN_back (k := 8) (by decide) hb e1
  obtain ⟨g2, c2, r2⟩ := nextN_back (k := 4) (by decide) c1 e2
  obtain ⟨g3, c3, r3⟩ := nextN_back (k := 4) (by decide) c2 e3
  obtain ⟨g4, c4, r4⟩ := nextT_back (n := 16) (by decide) c3 e4
  have m2 : a2 % 4294967296 = a2 := by omega
  have m3 : a3 % 4294967296 = a3 := by omega
  refine ⟨?_, c4, ⟨⟨Int.le_refl 0, show (0 : Int) < 18446744073709551616 by decide⟩, ⟨r1.1, by show a1 < 18446744073709551616; omega⟩, ⟨by simp only [m2]; exact r2.1, by simp only [m2]; omega⟩, ⟨by simp only [m3]; exact r3.1, by simp only [m3]; omega⟩⟩, recC_mk rfl rfl r4⟩
  simp only [Prod.mk.injEq, and_true] at g2 g3 g4
  rw [g1, g2, g3, g4]
  simp only [recB, m2, m3, List.append_assoc]
  rfl
theorem recs_back : ∀ (k : Nat) (t : Rest) (acc res : List S54) (r : List Int), Bytes t.1 → recsGo k t acc = (res, r, false) → ∃ l, res = acc ++ l ∧ l.length = k ∧ t = (recsB l ++ r, false) ∧ Bytes r ∧ recsC l = 0 ∧ ∀ x ∈ l, okRec x
  | 0, t, acc, res, r, hb, h => by
    rw [recsGo] at h
    obtain ⟨rfl, rfl⟩ := Prod.mk.inj h
    exact ⟨[], by simp, rfl, by simp [recsB], hb, rfl, fun x hx => by cases hx⟩
  | k + 1, t, acc, res, r, hb, h => by
    rw [recsGo] at h
    split at h
    · rename_i hbad
      obtain ⟨_, rfl⟩ := Prod.mk.inj h
      cases hbad
    · obtain ⟨x, s, hx⟩ : ∃ x s, nextR t = (x, s) := ⟨_, _, rfl⟩
      rw [hx] at h
      simp only at h
      have hs := recsGo_bad k h
      obtain ⟨s, _⟩ := s
      obtain rfl : _ = false := hs
      obtain ⟨g1, g2, g3, g4⟩ := nextR_back hb hx
      obtain ⟨l, rfl, hl, hss, hbr, hc, ho⟩ := recs_back k _ _ _ _ g2 h
      refine ⟨x :: l, by simp, by rw [List.length_cons, hl], ?_, hbr, by rw [recsC, if_pos g4]; exact hc, fun y hy => ?_⟩
      · simp only [Prod.mk.injEq, and_true] at hss
        rw [g1, hss]
        simp [recsB]
      · rcases List.mem_cons.1 hy with rfl | hy
        · exact g3
        · exact ho y hy
theorem ansCode_zero {a : AnsT} (h : ansCode a = 0) : (0 ≤ a.code ∧ a.code ≤ 14) ∧ 0 ≤ a.n ∧ a.recs.length ≤ 200 ∧ recsC a.recs = 0 := by
  unfold ansCode at h
  split at h
  · cases h
  · split at h
    · cases h
    · exact ⟨by omega, by omega, by omega, h⟩
theorem wrap64_id {n : Int} (h : i64 n) : wrap64 n = n := by unfold i64 at h; unfold wrap64; omega
theorem ans_put (a : AnsT) (hc : ansCode a = 0) (hn : i64 a.n) (ho : ∀ r ∈ a.recs, okRec r) : parseAns (ansBody a, false) = ((a, (a.recs.length : Int)), [], false) := by
  obtain ⟨h1, h2, h3, h4⟩ := ansCode_zero hc
  obtain ⟨c, l, n⟩ := a
  simp only at h1 h2 h3 h4 ho hn
  unfold parseAns ansBody
  simp only
  have e1 := fun x => nextN_put c 1 (by decide) h1.1 (by omega) x
  have e2 := fun x => nextN_put (IntKind.u64.wrap n) 8 (by decide) (u64_of n).1 (u64_of n).2 x
  have e3 := fun x => nextN_put (l.length : Int) 1 (by decide) (by omega) (by omega) x
  simp only [show ((8 : Nat) : Int) = 8 from rfl, show ((1 : Nat) : Int) = 1 from rfl] at e1 e2 e3
  rw [one_byte c (by omega), one_byte (l.length : Int) (by omega)]
  simp only [e1, e2, e3]
  have m1 : wrap64 c = c := by unfold wrap64; omega
  have m3 : wrap64 (l.length : Int) = l.length := by unfold wrap64; omega
  have hr := recs_put l [] [] h4 ho
  rw [List.append_nil, List.nil_append] at hr
  rw [m1, m3, wrap_wrap hn, Int.toNat_natCast, hr]
theorem ans_back (xs : List Int) (hb : Bytes xs) (a : AnsT) (m : Int) (h : parseAns (xs, false) = ((a, m), [], false)) (h1 : ¬ 14 < a.code) (h2 : ¬ a.n < 0) (h3 : ¬ 200 < m) : ansCode a = 0 ∧ ansBody a = xs ∧ (∀ r ∈ a.recs, okRec r) ∧ i64 a.n := by
  unfold parseAns at h
  obtain ⟨cd, t1, e1⟩ : ∃ k t, nextN (xs, false) 1 = (k, t) := ⟨_, _, rfl⟩
  obtain ⟨nn, t2, e2⟩ : ∃ k t, nextN t1 8 = (k, t) := ⟨_, _, rfl⟩
  obtain ⟨mm, t3, e3⟩ : ∃ k t, nextN t2 1 = (k, t) := ⟨_, _, rfl⟩
  obtain ⟨RS, RT, e4⟩ : ∃ R T, recsGo (wrap64 mm).toNat t3 [] = (R, T) := ⟨_, _, rfl⟩
  simp only [e1, e2, e3, e4] at h
  obtain ⟨ha, rfl⟩ := Prod.mk.inj h
  obtain ⟨rfl, rfl⟩ := Prod.mk.inj ha
  simp only at h1 h2
  have b3 := recsGo_bad _ e4
  have b2 := nextN_bad e3 b3
  have b1 := nextN_bad e2 b2
  obtain ⟨t1, _⟩ := t1; obtain rfl : _ = false := b1
  obtain ⟨t2, _⟩ := t2; obtain rfl : _ = false := b2
  obtain ⟨t3, _⟩ := t3; obtain rfl : _ = false := b3
  obtain ⟨g1, c1, r1⟩ := nextN_back (k := 1) (by decide) hb e1
  obtain ⟨g2, c2, r2⟩ := nextN_back (k := 8) (by decide) c1 e2
  obtain ⟨g3, c3, r3⟩ := nextN_back (k := 1) (by decide) c2 e3
  obtain ⟨l, hl, hll, g4, c4, hc, ho⟩ := recs_back _ _ _ _ _ c3 e4
  rw [List.nil_append] at hl
  subst hl
  have m1 : wrap64 cd = cd := by unfold wrap64; omega
  have m3 : wrap64 mm = mm := by unfold wrap64; omega
  rw [m3] at hll h3
  rw [m1] at h1
  refine ⟨?_, ?_, ho, i64_wrap nn⟩
  · unfold ansCode
    simp only
    rw [if_neg (by rw [m1]; omega), if_neg (by omega)]
    exact hc
  · unfold ansBody
    simp only
    simp only [Prod.mk.injEq, and_true] at g1 g2 g3 g4
    have hlm : (RS.length : Int) = mm := by omega
    rw [wrap_u64 ⟨r2.1, by omega⟩, m1, hlm, one_byte cd (by omega), one_byte mm (by omega), g1, g2, g3, g4, List.append_nil]
theorem ansBody_bytes (a : AnsT) (hc : recsC a.recs = 0) : Bytes (ansBody a) :=
  bytes_append (fun x hx => by rw [List.mem_singleton.1 hx]; omega) (bytes_append (putB_bytes _ _) (bytes_append (fun x hx => by rw [List.mem_singleton.1 hx]; omega) (recsB_bytes hc)))
theorem ansBody_length (a : AnsT) (hc : recsC a.recs = 0) : (ansBody a).length = 10 + 32 * a.recs.length := by
  simp only [ansBody, List.length_append, List.length_singleton, putB_length, recsB_length hc]
  omega
/-- What is sealed is got back; what is got is what was sealed. -/
theorem get_sealed {xs : List Int} (h : Bytes xs) (hl : xs.length ≤ 500000000) : seal_Get.f (xs ++ sum4 xs) = some (xs, true) := by
  rw [seal_byt h (by omega)]
  have hb : SealF.Byt (xs ++ SealF.q (SealF.crc xs)) := SealF.byt_append h (SealF.q_byt _)
  have hg := (SealF.get_f _ hb (by rw [List.length_append, SealF.q_len]; omega)).1 (SealF.put_good xs)
  rw [hg, List.length_append, SealF.q_len, Nat.add_sub_cancel, List.take_left' rfl]
theorem get_any {xs : List Int} (h : Bytes xs) (hl : xs.length ≤ 500000000) : ∃ ys ok, seal_Get.f xs = some (ys, ok) ∧ Bytes ys ∧ ys.length ≤ xs.length ∧ (ok = true → xs = ys ++ sum4 ys) := by
  have hg := SealF.get_f xs h (by omega)
  by_cases hs : SealF.IsSealed xs
  · refine ⟨_, _, hg.1 hs, fun x hx => h x (List.mem_of_mem_take hx), by rw [List.length_take]; omega, fun _ => ?_⟩
    rw [seal_byt (fun x hx => h x (List.mem_of_mem_take hx)) (by rw [List.length_take]; omega), ← hs.2, List.take_append_drop]
  · exact ⟨_, _, hg.2 hs, fun x hx => (by cases hx), by simp, fun h => by cases h⟩
theorem same21_f (c : Int) (l : List S54) (n : Int) (hl : l.length < 1000000) : ∃ K, counterpaneref21_Same.f K c l n c l n = some true := by
  have loop : ∀ (m i : Nat), i + m = l.length → counterpaneref21_Same.l0 (m + 1) (i : Int) c l n c l n = some true := by
    intro m
    induction m with
    | zero =>
      intro i h
      rw [counterpaneref21_Same.l0, if_neg (by omega)]
    | succ m ih =>
      intro i h
      have e1 : wrap64 ((i : Int) + 1) = ((i + 1 : Nat) : Int) := by unfold wrap64; omega
      rw [counterpaneref21_Same.l0, if_pos (by omega), if_pos (by omega), if_pos (by omega), if_neg (by simp), e1, ih (i + 1) (by omega)]
  refine ⟨l.length + 1 + 1, ?_⟩
  unfold counterpaneref21_Same.f
  rw [if_pos rfl, if_pos rfl, counterpaneref21_Same.j0, if_neg (by simp)]
  exact loop l.length 0 (by omega)
end Go.Proofs.Ytnhkpolfkmpldaa.PAll

/- Batches as bytes, there and back (plain). -/
namespace Go.Proofs.Ytnhkpolfkmpldaa.PAll
open Go.RowKit Go.Proofs.YtnhkpolfkmpldaaW.PrintWords Go.Proofs.YtnhkpolfkmpldaaW.PrintLast Go.Proofs.YtnhkpolfkmpldaaW.PrintMore
set_option linter.unusedVariables false
set_option linter.unusedSimpArgs false

def batchB (l : List (List Int)) : List Int := l.flatMap fun x => putB x.length 2 ++ x
theorem batchB_cons (x : List Int) (l : List (List Int)) : batchB (x :: l) = putB x.length 2 ++ (x ++ batchB l) := by simp [batchB]
theorem rdL6_at {l : List (List Int)} {i : Nat} (h : i < l.length) : rd_L6 l (i : Int) = l[i] := by
  simp [rd_L6, List.getD_eq_getElem?_getD, List.getElem?_eq_getElem h]
theorem batch_l0 (l : List (List Int)) (hs : ∀ x ∈ l, x.length < 65536) (hl : l.length < 1000000) : ∀ (m i : Nat) (acc : List Int), i + m = l.length → acc.length + (batchB (l.drop i)).length < 10000000 →
    parcel_Batch.l0 (m + 10) acc l (l.length : Int) (i : Int) = some (acc ++ batchB (l.drop i), 0)
  | 0, i, acc, h, ha => by
    rw [parcel_Batch.l0, if_neg (by omega), List.drop_of_length_le (by omega)]
    simp [batchB]
  | m + 1, i, acc, h, ha => by
    have hi : i < l.length := by omega
    have hd : l.drop i = l[i] :: l.drop (i + 1) := List.drop_eq_getElem_cons hi
    have hx := hs _ (List.getElem_mem hi)
    have e1 : wrap64 ((i : Int) + 1) = ((i + 1 : Nat) : Int) := by unfold wrap64; omega
    rw [hd] at ha ⊢
    rw [show m + 1 + 10 = (m + 10) + 1 by omega, parcel_Batch.l0, if_pos (by omega), if_pos (by omega), if_pos (by omega), rdL6_at hi]
    generalize l[i] = x at hx ha ⊢
    rw [batchB_cons] at ha ⊢
    simp only [List.length_append, putB_length] at ha
    rw [if_neg (by omega), wrap_id ⟨by omega, by omega⟩]
    have E1 := wput (m + 10) acc (x.length : Int) 2 (by decide) (by decide) (by omega) (by omega)
    simp only [show ((2 : Nat) : Int) = 2 from rfl] at E1
    rw [E1, Option.bind_some, if_pos (by simp only [List.length_append, putB_length]; omega), e1, batch_l0 l hs hl m (i + 1) _ (by omega) (by simp only [List.length_append, putB_length]; omega)]
    simp only [List.append_assoc]
theorem batch_f (l : List (List Int)) (hs : ∀ x ∈ l, x.length < 65536) (hl : l.length < 1000000) (hb : (batchB l).length < 10000000) : ∃ K, parcel_Batch.f K l = some (batchB l, 0) := by
  refine ⟨l.length + 10, ?_⟩
  unfold parcel_Batch.f
  have := batch_l0 l hs hl l.length 0 [] (by omega) (by simpa using hb)
  simpa using this
theorem rbatch_l0 (l : List (List Int)) (hl : l.length < 1000000) : ∀ (m i : Nat) (acc : List Int), i + m = l.length → acc.length + (batchB (l.drop i)).length < 10000000 →
    counterpaneref33_Batch.l0 (m + 10) l acc (i : Int) = some (acc ++ batchB (l.drop i))
  | 0, i, acc, h, ha => by
    rw [counterpaneref33_Batch.l0, if_neg (by omega), List.drop_of_length_le (by omega)]
    simp [batchB]
  | m + 1, i, acc, h, ha => by
    have hi : i < l.length := by omega
    have hd : l.drop i = l[i] :: l.drop (i + 1) := List.drop_eq_getElem_cons hi
    have e1 : wrap64 ((i : Int) + 1) = ((i + 1 : Nat) : Int) := by unfold wrap64; omega
    rw [hd] at ha ⊢
    rw [show m + 1 + 10 = (m + 10) + 1 by omega, counterpaneref33_Batch.l0, if_pos (by omega), if_pos (by omega), rdL6_at hi]
    generalize l[i] = x at ha ⊢
    rw [batchB_cons] at ha ⊢
    simp only [List.length_append, putB_length] at ha
    rw [wrap_id ⟨by omega, by omega⟩]
    have E1 := rput (m + 10) (x.length : Int) 2 ⟨by omega, by omega⟩ (by decide) (by omega)
    simp only [show ((2 : Nat) : Int) = 2 from rfl] at E1
    rw [E1, Option.bind_some, if_pos (by simp only [List.length_append, putB_length]; omega), Option.bind_some, if_pos (by simp only [List.length_append, putB_length]; omega), e1, rbatch_l0 l hl m (i + 1) _ (by omega) (by simp only [List.length_append, putB_length]; omega)]
    simp only [List.append_assoc]
theorem rbatch_f (l : List (List Int)) (hl : l.length < 1000000) (hb : (batchB l).length < 10000000) : ∃ K, counterpaneref33_Batch.f K l = some (batchB l) := by
  refine ⟨l.length + 10, ?_⟩
  unfold counterpaneref33_Batch.f
  have := rbatch_l0 l hl l.length 0 [] (by omega) (by simpa using hb)
  simpa using this
theorem batch_put : ∀ (l : List (List Int)) (k : Nat) (acc : List (List Int)), (∀ x ∈ l, x.length < 65536) → l.length < k → batchGo k (batchB l) acc = some (acc ++ l)
  | [], k, acc, _, hk => by
    obtain ⟨j, rfl⟩ : ∃ j, k = j + 1 := ⟨k - 1, by have : 0 < k := hk; omega⟩
    rw [batchGo, if_pos (by simp [batchB]), List.append_nil]
  | x :: l, k, acc, hs, hk => by
    rw [List.length_cons] at hk
    obtain ⟨j, rfl⟩ : ∃ j, k = j + 1 := ⟨k - 1, by omega⟩
    have hx := hs x List.mem_cons_self
    rw [batchGo, batchB_cons, if_neg (by simp only [List.length_append, putB_length]; omega)]
    have e1 : takeF (putB x.length 2 ++ (x ++ batchB l)) false 2 = (putB x.length 2, x ++ batchB l, false) := take_enc _ _ 2 (putB_length _ 2)
    have e2 : getN (putB (x.length : Int) 2) = x.length := getN_putB _ 2 (by decide) (by omega) (by omega)
    have e3 : wrap64 (x.length : Int) = x.length := by unfold wrap64; omega
    simp only [e1, e2, e3, take_enc x (batchB l) x.length rfl]
    rw [if_neg (by simp), batch_put l j _ (fun y hy => hs y (List.mem_cons_of_mem _ hy)) (by omega)]
    simp
theorem takeF_bad (xs : List Int) (n : Int) : takeF xs true n = ([], xs, true) := by unfold takeF; rw [if_pos (.inl rfl)]
theorem batch_back : ∀ (k : Nat) (xs : List Int) (acc r : List (List Int)), Bytes xs → batchGo k xs acc = some r → ∃ l, r = acc ++ l ∧ batchB l = xs ∧ (∀ x ∈ l, x.length < 65536) ∧ 2 * l.length ≤ xs.length
  | 0, xs, acc, r, hb, h => by rw [batchGo] at h; cases h
  | k + 1, xs, acc, r, hb, h => by
    rw [batchGo] at h
    split at h
    · rename_i h0
      obtain rfl := Option.some.inj h
      exact ⟨[], by simp, by rw [List.eq_nil_of_length_eq_zero h0]; rfl, fun x hx => (by cases hx), by simp⟩
    · generalize hr : takeF xs false 2 = q at h
      obtain ⟨p, ys, b⟩ := q
      simp only at h
      cases b with
      | true => rw [takeF_bad] at h; simp at h
      | false =>
        generalize ht : takeF ys false (wrap64 (getN p)) = u at h
        obtain ⟨x, zs, b2⟩ := u
        simp only at h
        cases b2 with
        | true => simp at h
        | false =>
          rw [if_neg (by simp)] at h
          obtain ⟨_, e2, e3⟩ := takeF_ok (s := (xs, false)) (k := 2) hr
          simp only at e2
          have hbp : Bytes p := fun y hy => hb y (by rw [e2]; simp [hy])
          have hby : Bytes ys := fun y hy => hb y (by rw [e2]; simp [hy])
          obtain ⟨g0, g1, g2⟩ := putB_getN p 2 e3 (by decide) hbp
          have hw : wrap64 (getN p) = getN p := by unfold wrap64; omega
          rw [hw] at ht
          obtain ⟨m, hm⟩ : ∃ m : Nat, getN p = m := ⟨(getN p).toNat, by omega⟩
          rw [hm] at ht
          obtain ⟨_, e5, e6⟩ := takeF_ok (s := (ys, false)) (k := m) ht
          simp only at e5
          have hbz : Bytes zs := fun y hy => hby y (by rw [e5]; simp [hy])
          obtain ⟨l, rfl, hl, hs, hn⟩ := batch_back k zs _ _ hbz h
          refine ⟨x :: l, by simp, ?_, fun y hy => ?_, ?_⟩
          · rw [batchB_cons, hl, e6, ← hm, g2, e2, e5]
          · rcases List.mem_cons.1 hy with rfl | hy
            · omega
            · exact hs y hy
          · rw [e2, e5]
            simp only [List.length_append, List.length_cons, e3]
            omega
end Go.Proofs.Ytnhkpolfkmpldaa.PAll

/- Parcels: the calls' contracts, as the laws need them. -/
namespace Go.Proofs.Ytnhkpolfkmpldaa.PAll
open Go.RowKit Go.Proofs.YtnhkpolfkmpldaaW.PrintWords Go.Proofs.YtnhkpolfkmpldaaW.PrintLast Go.Proofs.YtnhkpolfkmpldaaW.PrintMore
set_option linter.unusedVariables false
set_option linter.unusedSimpArgs false

theorem eqA25 (d : Nat) (w : World) (x0 y0 : Int) (x1 y1 : Int) (x2 y2 : Int) (x3 y3 : Int) :
    (Op.equalIn (d + 2) 25 (.agg #[.int .u32 x0, .int .u32 x1, .int .u32 x2, .int .u32 x3]) (.agg #[.int .u32 y0, .int .u32 y1, .int .u32 y2, .int .u32 y3])).run Try.prog w = .ok (x0 == y0 && (x1 == y1 && (x2 == y2 && (x3 == y3)))) w := by
  refine eqA_of Try.underlying25 (by kernel_rfl) ?_
  refine eqf_cons (by rfl) (by go_simp; rfl) (by go_simp; rfl) (by go_simp) ?_
  refine eqf_cons (by rfl) (by go_simp; rfl) (by go_simp; rfl) (by go_simp) ?_
  refine eqf_cons (by rfl) (by go_simp; rfl) (by go_simp; rfl) (by go_simp) ?_
  exact eqf_last (by rfl) (by go_simp; rfl) (by go_simp; rfl) (by go_simp)
theorem eqA27 (d : Nat) (w : World) (x0 y0 : Int) (x1 y1 : Int) (x2 y2 : Int) (x3 y3 : Int) (x4 y4 : ByteArray) (x5 y5 : Int) (x6 y6 : Int) (x7 y7 : Int) (x8 y8 : Int) (x9 y9 : Int) :
    (Op.equalIn (d + 3) 27 (.agg #[.int .i64 x0, .int .u64 x1, .int .u32 x2, .int .u32 x3, .string x4, .int .u32 x5, .int .u32 x6, .int .u32 x7, .int .u32 x8, .int .i64 x9]) (.agg #[.int .i64 y0, .int .u64 y1, .int .u32 y2, .int .u32 y3, .string y4, .int .u32 y5, .int .u32 y6, .int .u32 y7, .int .u32 y8, .int .i64 y9])).run Try.prog w = .ok (x0 == y0 && (x1 == y1 && (x2 == y2 && (x3 == y3 && (x4.toList == y4.toList && ((x5 == y5 && (x6 == y6 && (x7 == y7 && (x8 == y8)))) && (x9 == y9))))))) w := by
  refine eqA_of Try.underlying27 (by kernel_rfl) ?_
  refine eqf_cons (by rfl) (by go_simp; rfl) (by go_simp; rfl) (by go_simp) ?_
  refine eqf_cons (by rfl) (by go_simp; rfl) (by go_simp; rfl) (by go_simp) ?_
  refine eqf_cons (by rfl) (by go_simp; rfl) (by go_simp; rfl) (by go_simp) ?_
  refine eqf_cons (by rfl) (by go_simp; rfl) (by go_simp; rfl) (by go_simp) ?_
  refine eqf_cons (by rfl) (by go_simp; rfl) (by go_simp; rfl) (by go_simp) ?_
  refine eqf_cons (by rfl) (by go_simp) (by go_simp) (eqA25 (d + 0) w _ _ _ _ _ _ _ _) ?_
  exact eqf_last (by rfl) (by go_simp; rfl) (by go_simp; rfl) (by go_simp)
theorem eq27 (d : Nat) (w : World) (a b : OpT) (q : Bool) (hq : q = true ↔ a = b) : (Op.equalIn (d + 3) 27 (.agg (opT a)) (.agg (opT b))).run Try.prog w = .ok q w := by
  obtain ⟨a0, a1, a2, a3, a4, a5, a6, a7, a8, a9⟩ := a
  obtain ⟨b0, b1, b2, b3, b4, b5, b6, b7, b8, b9⟩ := b
  refine (eqA27 d w a0 b0 a1 b1 a2 b2 a3 b3 a4 b4 a5 b5 a6 b6 a7 b7 a8 b8 a9 b9).trans ?_
  congr 1
  rw [Bool.eq_iff_iff, hq]
  simp only [Bool.and_eq_true, beq_iff_eq, Prod.mk.injEq]
  have hs : a4.toList = b4.toList ↔ a4 = b4 := by
    constructor
    · intro h
      rw [ByteArray.toList_eq, ByteArray.toList_eq] at h
      exact ByteArray.ext (Array.toList_inj.1 h)
    · rintro rfl; rfl
  rw [hs]
  refine ⟨?_, ?_⟩
  · rintro ⟨h0, h1, h2, h3, h4, ⟨h5, h6, h7, h8⟩, h9⟩; exact ⟨h0, h1, h2, h3, h4, h5, h6, h7, h8, h9⟩
  · rintro ⟨h0, h1, h2, h3, h4, h5, h6, h7, h8, h9⟩; exact ⟨h0, h1, h2, h3, h4, ⟨h5, h6, h7, h8⟩, h9⟩

/-- What a call leaves that tells bytes and a code. -/
abbrev Told (W : World) (X : List Int) (cd : Int) (e : Ending) (w' : World) : Prop := ∃ A c, e = .returned (.tuple #[.slice A X.length c, .int .i64 cd]) ∧ X.length ≤ c ∧ Kd.C (Kd.int .u8) w' A X.length X ∧ Below W.heap.size W w'
theorem opE (o : OpT) (h : okOp o) (W : World) (X : List Int) (cd : Int) (hX : X = encT o) (hcd : cd = textC (valT o) 16) : Calls Try.prog 9 #[.agg (opT o)] W (Told W X cd) := by
  obtain ⟨k, key, x, y, v, p0, p1, p2, p3, n⟩ := o
  obtain ⟨h1, h2, h3, h4, h5, h6, h7, h8, h9⟩ := h
  subst hcd
  exact op_c k key x y v p0 p1 p2 p3 n W (fun z hz => by
    simp only [six, List.mem_cons, List.not_mem_nil, or_false] at hz
    rcases hz with rfl | rfl | rfl | rfl | rfl | rfl
    · exact u32_u64 h3
    · exact u32_u64 h4
    · exact u32_u64 h5
    · exact u32_u64 h6
    · exact u32_u64 h7
    · exact u32_u64 h8) X hX
def isOpF (l0 : List Int) : OpT × Int := match seal_Get.f l0 with | some g => isOpG g | none => (noOp, 5)
theorem isOpE (A0 : Option Addr) (c0 m : Nat) (l0 : List Int) (W : World) (hm : m = l0.length) (hC : Kd.C (Kd.int .u8) W A0 l0.length l0) (hc : l0.length ≤ c0) (hb : Bytes l0) (hl : l0.length ≤ 100000000) (p : OpT) (cd : Int) (h : isOpF l0 = (p, cd)) :
    Calls Try.prog 14 #[.slice A0 m c0] W fun e w' => e = .returned (.tuple #[.agg (opT p), .int .i64 cd]) ∧ Below W.heap.size W w' := by
  subst hm
  obtain ⟨ys, ok, hg, hby, hyl, _⟩ := get_any hb (by omega)
  have he : isOpF l0 = isOpG (ys, ok) := by unfold isOpF; rw [hg]
  rw [he] at h
  exact isOp_c A0 c0 l0 W hC hc (by omega) ys ok hg (by omega) hby _ _ (by rw [h]) (by rw [h])
theorem isOp_enc (o : OpT) (h : okOp o) (hc : textC (valT o) 16 = 0) : isOpF (encT o) = (o, 0) := by
  have hv := textC_16.1 hc
  have hp := parse_put o h hv
  obtain ⟨k, key, x, y, v, p0, p1, p2, p3, n⟩ := o
  have hb := body_bytes k key x y v p0 p1 p2 p3 n (by show v.size < 256; have : v.size < 16 := hv; omega)
  have hl := body_length k key x y v p0 p1 p2 p3 n hv
  unfold isOpF encT
  rw [if_pos hc]
  have hg := get_sealed hb (by omega)
  simp only [bodyT]
  rw [hg]
  simp only [isOpG, if_true]
  rw [show opBody k key x y v p0 p1 p2 p3 n = bodyT (k, key, x, y, v, p0, p1, p2, p3, n) from rfl, hp]
  rw [if_neg (by simp)]
theorem isOp_back (l0 : List Int) (hb : Bytes l0) (hl : l0.length ≤ 100000000) (p : OpT) (cd : Int) (h : isOpF l0 = (p, cd)) : (cd = 0 ∧ okOp p ∧ textC (valT p) 16 = 0 ∧ encT p = l0) ∨ (p = noOp ∧ (cd = 5 ∨ cd = 3)) := by
  obtain ⟨ys, ok, hg, hby, hyl, hok⟩ := get_any hb (by omega)
  have he : isOpF l0 = isOpG (ys, ok) := by unfold isOpF; rw [hg]
  rw [he] at h
  cases ok with
  | false =>
    obtain ⟨h1, h2⟩ := Prod.mk.inj h
    exact .inr ⟨h1.symm, .inl h2.symm⟩
  | true =>
    unfold isOpG at h
    rw [if_pos rfl] at h
    simp only at h
    split at h
    · obtain ⟨h1, h2⟩ := Prod.mk.inj h
      exact .inr ⟨h1.symm, .inr h2.symm⟩
    · rename_i hn
      obtain ⟨h1, h2⟩ := Prod.mk.inj h
      have hp : parseOp (ys, false) = (p, [], false) := by
        generalize parseOp (ys, false) = q at hn h1
        obtain ⟨q1, q2, q3⟩ := q
        simp only at hn h1
        rw [h1]
        cases q3 with
        | true => exact absurd (.inl rfl) hn
        | false =>
          cases q2 with
          | nil => rfl
          | cons a b => exact absurd (.inr (by simp)) hn
      obtain ⟨g1, g2, g3⟩ := parse_back ys hby p hp
      refine .inl ⟨h2.symm, g1, textC_16.2 g2, ?_⟩
      unfold encT
      rw [if_pos (textC_16.2 g2), g3, ← hok rfl]
def isAnsF (l0 : List Int) : AnsT × Int := match seal_Get.f l0 with | some g => isAnsG g | none => (noAns, 5)
theorem isAnsE (A0 : Option Addr) (c0 m : Nat) (l0 : List Int) (W : World) (hm : m = l0.length) (hC : Kd.C (Kd.int .u8) W A0 l0.length l0) (hc : l0.length ≤ c0) (hb : Bytes l0) (hl : l0.length ≤ 100000000) (p : AnsT) (cd : Int) (h : isAnsF l0 = (p, cd)) :
    Calls Try.prog 15 #[.slice A0 m c0] W fun e w' => ∃ A c, e = .returned (.tuple #[.agg #[.int .i64 p.code, .slice A p.recs.length c, .int .i64 p.n], .int .i64 cd]) ∧ p.recs.length ≤ c ∧ Kd.C k54 w' A p.recs.length p.recs ∧ Below W.heap.size W w' := by
  subst hm
  obtain ⟨ys, ok, hg, hby, hyl, _⟩ := get_any hb (by omega)
  have he : isAnsF l0 = isAnsG (ys, ok) := by unfold isAnsF; rw [hg]
  rw [he] at h
  exact isAns_c A0 c0 l0 W hC hc (by omega) ys ok hg (by omega) hby _ _ h.symm
theorem isAns_enc (a : AnsT) (hc : ansCode a = 0) (hn : i64 a.n) (ho : ∀ r ∈ a.recs, okRec r) : isAnsF (encA a) = (a, 0) := by
  obtain ⟨h1, h2, h3, h4⟩ := ansCode_zero hc
  have hg := get_sealed (ansBody_bytes a h4) (by rw [ansBody_length a h4]; omega)
  unfold isAnsF encA
  rw [if_pos hc, hg]
  simp only [isAnsG, if_true]
  rw [ans_put a hc hn ho]
  simp only
  rw [if_neg (by intro h; rcases h with h | h | h | h | h; exact Bool.noConfusion h; exact absurd h (by simp); omega; omega; omega)]
theorem isAns_back (l0 : List Int) (hb : Bytes l0) (hl : l0.length ≤ 100000000) (p : AnsT) (cd : Int) (h : isAnsF l0 = (p, cd)) : (cd = 0 ∧ ansCode p = 0 ∧ (∀ r ∈ p.recs, okRec r) ∧ encA p = l0) ∨ (p = noAns ∧ (cd = 5 ∨ cd = 3)) := by
  obtain ⟨ys, ok, hg, hby, hyl, hok⟩ := get_any hb (by omega)
  have he : isAnsF l0 = isAnsG (ys, ok) := by unfold isAnsF; rw [hg]
  rw [he] at h
  cases ok with
  | false =>
    obtain ⟨h1, h2⟩ := Prod.mk.inj h
    exact .inr ⟨h1.symm, .inl h2.symm⟩
  | true =>
    unfold isAnsG at h
    rw [if_pos rfl] at h
    simp only at h
    split at h
    · obtain ⟨h1, h2⟩ := Prod.mk.inj h
      exact .inr ⟨h1.symm, .inr h2.symm⟩
    · rename_i hn
      obtain ⟨h1, h2⟩ := Prod.mk.inj h
      have hp : ∃ m, parseAns (ys, false) = ((p, m), [], false) ∧ ¬ 14 < p.code ∧ ¬ p.n < 0 ∧ ¬ 200 < m := by
        generalize parseAns (ys, false) = q at hn h1
        obtain ⟨⟨q0, m⟩, q2, q3⟩ := q
        simp only at hn h1
        subst h1
        refine ⟨m, ?_, fun h => hn (.inr (.inr (.inl h))), fun h => hn (.inr (.inr (.inr (.inl h)))), fun h => hn (.inr (.inr (.inr (.inr h))))⟩
        cases q3 with
        | true => exact absurd (.inl rfl) hn
        | false =>
          cases q2 with
          | nil => rfl
          | cons a b => exact absurd (.inr (.inl (by simp))) hn
      obtain ⟨m, hp, p1, p2, p3⟩ := hp
      obtain ⟨g1, g2, g3, g4⟩ := ans_back ys hby p m hp p1 p2 p3
      refine .inl ⟨h2.symm, g1, g3, ?_⟩
      unfold encA
      rw [if_pos g1, g2, ← hok rfl]
theorem ansE (a : AnsT) (A0 : Option Addr) (c0 m : Nat) (W : World) (hm : m = a.recs.length) (hC : Kd.C k54 W A0 a.recs.length a.recs) (hc : a.recs.length ≤ c0) (ho : ∀ r ∈ a.recs, okRec r) (X : List Int) (cd : Int) (hX : X = encA a) (hcd : cd = ansCode a) :
    Calls Try.prog 11 #[.agg #[.int .i64 a.code, .slice A0 m c0, .int .i64 a.n]] W (Told W X cd) := by
  subst hm hX hcd
  obtain ⟨K, hK⟩ := ans_f a ho
  exact (parcel_Answer.calls K a.code A0 c0 a.recs a.n _ _ W hC hc hK).mono fun e w' ⟨u, h1, hr, h2⟩ => by
    obtain ⟨A, c, rfl⟩ := Kd.R_slice hr
    exact ⟨A, c, h1, (Kd.R_reads' hr).2.1, (Kd.R_reads' hr).2.2, h2⟩
theorem sameE (A : Option Addr) (c m : Nat) (xs : List Int) (B : Option Addr) (d n : Nat) (ys : List Int) (W : World) (hm : m = xs.length) (hn : n = ys.length) (hA : Kd.C (Kd.int .u8) W A xs.length xs) (hc : xs.length ≤ c) (hB : Kd.C (Kd.int .u8) W B ys.length ys) (hd : ys.length ≤ d) (hx : Bytes xs) (hy : Bytes ys) (q : Bool) (hq : q = true ↔ xs = ys) :
    Calls Try.prog 13 #[.slice A m c, .slice B n d] W fun e w' => e = .returned (.bool q) ∧ Below W.heap.size W w' := by
  subst hm hn
  have hf : counterpaneref01_Same.f xs ys = some q := by
    rw [SealF.same_f hx hy]
    congr 1
    rw [Bool.eq_iff_iff, hq, decide_eq_true_eq]
  exact (counterpaneref01_Same.calls A c xs B d ys q W hA hc hB hd hf).mono fun e w' ⟨h1, h2⟩ => ⟨h1, h2.below⟩
theorem same21E (a : AnsT) (A : Option Addr) (c m : Nat) (B : Option Addr) (d n : Nat) (W : World) (hm : m = a.recs.length) (hn : n = a.recs.length) (hA : Kd.C k54 W A a.recs.length a.recs) (hc : a.recs.length ≤ c) (hB : Kd.C k54 W B a.recs.length a.recs) (hd : a.recs.length ≤ d) (hl : a.recs.length < 1000000) :
    Calls Try.prog 16 #[.agg #[.int .i64 a.code, .slice A m c, .int .i64 a.n], .agg #[.int .i64 a.code, .slice B n d, .int .i64 a.n]] W fun e w' => e = .returned (.bool true) ∧ Below W.heap.size W w' := by
  subst hm hn
  obtain ⟨K, hK⟩ := same21_f a.code a.recs a.n hl
  exact counterpaneref21_Same.calls K a.code A c a.recs a.n a.code B d a.recs a.n true W hA hc hB hd hK
def lightB (a : AnsT) : Bool := decide (a.recs.length ≤ 250) && a.recs.all fun r => decide (r.f4.size ≤ 100)
theorem light_f (a : AnsT) : ∃ K, counterpanelaw33_light.f K a.code a.recs a.n = some (lightB a) := by
  obtain ⟨c, l, n⟩ := a
  unfold lightB counterpanelaw33_light.f
  simp only
  by_cases h : (l.length : Int) > 250
  · exact ⟨0, by rw [if_pos h, decide_eq_false (by omega)]; rfl⟩
  have loop : ∀ (m i : Nat), i + m = l.length → counterpanelaw33_light.l0 (m + 1) (i : Int) c l n = some ((l.drop i).all fun r => decide (r.f4.size ≤ 100)) := by
    intro m
    induction m with
    | zero =>
      intro i h
      rw [counterpanelaw33_light.l0, if_neg (by omega), List.drop_of_length_le (by omega)]
      rfl
    | succ m ih =>
      intro i hi
      have e1 : wrap64 ((i : Int) + 1) = ((i + 1 : Nat) : Int) := by unfold wrap64; omega
      have hd : l.drop i = l[i] :: l.drop (i + 1) := List.drop_eq_getElem_cons (by omega)
      rw [counterpanelaw33_light.l0, if_pos (by omega), if_pos (by omega), rd_at (by omega : i < l.length), hd, List.all_cons]
      by_cases hs : ((l[i].f4).size : Int) > 100
      · rw [if_pos hs, decide_eq_false (by omega)]; rfl
      · rw [if_neg hs, decide_eq_true (by omega : l[i].f4.size ≤ 100), e1, ih (i + 1) (by omega)]; rfl
  refine ⟨l.length + 1, ?_⟩
  rw [if_neg h, decide_eq_true (by omega)]
  have := loop l.length 0 (by omega)
  simpa using this
theorem lightE (a : AnsT) (A0 : Option Addr) (c0 m : Nat) (W : World) (hm : m = a.recs.length) (hC : Kd.C k54 W A0 a.recs.length a.recs) (hc : a.recs.length ≤ c0) (q : Bool) (hq : lightB a = q) :
    Calls Try.prog 7 #[.agg #[.int .i64 a.code, .slice A0 m c0, .int .i64 a.n]] W fun e w' => e = .returned (.bool q) ∧ Below W.heap.size W w' := by
  subst hm hq
  obtain ⟨K, hK⟩ := light_f a
  exact counterpanelaw33_light.calls K a.code A0 c0 a.recs a.n _ W hC hc hK
theorem batchE (A0 : Option Addr) (c0 m : Nat) (l : List (List Int)) (W : World) (hm : m = l.length) (hC : Kd.C (Kd.slice 5 (Kd.int .u8)) W A0 l.length l) (hc : l.length ≤ c0) (hs : ∀ x ∈ l, x.length < 65536) (hl : l.length < 1000000) (hb : (batchB l).length < 10000000) (X : List Int) (hX : X = batchB l) :
    Calls Try.prog 17 #[.slice A0 m c0] W (Told W X 0) := by
  subst hm hX
  obtain ⟨K, hK⟩ := batch_f l hs hl hb
  exact (parcel_Batch.calls K A0 c0 l _ _ W hC hc hK).mono fun e w' ⟨u, h1, hr, h2⟩ => by
    obtain ⟨A, c, rfl⟩ := Kd.R_slice hr
    exact ⟨A, c, h1, (Kd.R_reads' hr).2.1, (Kd.R_reads' hr).2.2, h2⟩
theorem rbatchE (A0 : Option Addr) (c0 m : Nat) (l : List (List Int)) (W : World) (hm : m = l.length) (hC : Kd.C (Kd.slice 5 (Kd.int .u8)) W A0 l.length l) (hc : l.length ≤ c0) (hl : l.length < 1000000) (hb : (batchB l).length < 10000000) (X : List Int) (hX : X = batchB l) :
    Calls Try.prog 19 #[.slice A0 m c0] W fun e w' => ∃ A c, e = .returned (.slice A X.length c) ∧ X.length ≤ c ∧ Kd.C (Kd.int .u8) w' A X.length X ∧ Below W.heap.size W w' := by
  subst hm hX
  obtain ⟨K, hK⟩ := rbatch_f l hl hb
  exact (counterpaneref33_Batch.calls K A0 c0 l _ W hC hc hK).mono fun e w' ⟨u, h1, hr, h2⟩ => by
    obtain ⟨A, c, rfl⟩ := Kd.R_slice hr
    exact ⟨A, c, h1, (Kd.R_reads' hr).2.1, (Kd.R_reads' hr).2.2, h2⟩
theorem isBatchE (A0 : Option Addr) (c0 m : Nat) (l0 : List Int) (W : World) (hm : m = l0.length) (hC : Kd.C (Kd.int .u8) W A0 l0.length l0) (hc : l0.length ≤ c0) (hl : l0.length < 1000000000) (L : List (List Int)) (cd : Int) (h : batchGo (l0.length + 1) l0 [] = (if cd = 0 then some L else none)) (hcd : cd = 0 ∨ (cd = 3 ∧ L = [])) :
    Calls Try.prog 18 #[.slice A0 m c0] W fun e w' => ∃ A c, e = .returned (.tuple #[.slice A L.length c, .int .i64 cd]) ∧ L.length ≤ c ∧ Kd.C (Kd.slice 5 (Kd.int .u8)) w' A L.length L ∧ Below W.heap.size W w' := by
  subst hm
  rcases hcd with rfl | ⟨rfl, rfl⟩
  · rw [if_pos rfl] at h
    exact isBatch_c A0 c0 l0 W hC hc hl _ h L 0 rfl rfl
  · rw [if_neg (by decide)] at h
    exact isBatch_c A0 c0 l0 W hC hc hl _ h [] 3 rfl rfl
end Go.Proofs.Ytnhkpolfkmpldaa.PAll

/- What works tells: true. -/
namespace Go.Proofs.Ytnhkpolfkmpldaa.PAll
open Go.RowKit Go.Proofs.YtnhkpolfkmpldaaW.PrintWords Go.Proofs.YtnhkpolfkmpldaaW.PrintLast Go.Proofs.YtnhkpolfkmpldaaW.PrintMore
set_option linter.unusedVariables false
set_option linter.unusedSimpArgs false
attribute [local go_sem high] eqA27

theorem C_lit {α : Type} (d : Kd α) (W : World) (e : Nat) (inner : List Value) (xs : List α) (hr : Reps (d.K (W.alloc (.cells inner.toArray e))) d.sz xs inner) (hm : xs.length ≤ 9223372036854775807) : Kd.C d (W.alloc (.cells inner.toArray e)) (some ⟨W.heap.size, 0, none⟩) xs.length xs := by
  obtain ⟨A, c, h1, _, h2⟩ := OwnRow.reads (OwnRow.lit (e := e) W 0 hr (Nat.zero_le _) hm)
  injection h1 with h1
  subst h1
  exact h2
/-- One element, two elements. -/
theorem C_one {α : Type} (d : Kd α) (W : World) (e : Nat) (cs : List Value) (x : α) (h : d.K (W.alloc (.cells cs.toArray e)) x cs) : Kd.C d (W.alloc (.cells cs.toArray e)) (some ⟨W.heap.size, 0, none⟩) 1 [x] := by
  refine C_lit d W e cs [x] ?_ (Nat.le_of_ble_eq_true rfl)
  have := (Reps.none (d.K (W.alloc (.cells cs.toArray e))) d.sz).snoc h (d.K_len h)
  simpa using this
theorem C_two {α : Type} (d : Kd α) (W : World) (e : Nat) (cs ds : List Value) (x y : α) (h : d.K (W.alloc (.cells (cs ++ ds).toArray e)) x cs) (h' : d.K (W.alloc (.cells (cs ++ ds).toArray e)) y ds) : Kd.C d (W.alloc (.cells (cs ++ ds).toArray e)) (some ⟨W.heap.size, 0, none⟩) 2 [x, y] := by
  refine C_lit d W e (cs ++ ds) [x, y] ?_ (Nat.le_of_ble_eq_true rfl)
  have := ((Reps.none (d.K (W.alloc (.cells (cs ++ ds).toArray e))) d.sz).snoc h (d.K_len h)).snoc h' (d.K_len h')
  simpa using this
def o1 : OpT := (1, 7, 1, 0, ⟨#[118]⟩, 0, 0, 0, 0, -3)
def a1 : AnsT := ⟨7, [⟨0, 5, 0, 0, ⟨#[120]⟩, false⟩], 1⟩
def a2 : AnsT := ⟨0, [⟨1, 0, 0, 0, ⟨#[]⟩, false⟩], 0⟩
theorem ok_o1 : okOp o1 := by unfold okOp o1 i64 u64 u32; decide
theorem code_o1 : textC (valT o1) 16 = 0 := by decide
theorem ok_a1 : ∀ r ∈ a1.recs, okRec r := by
  intro r hr
  rw [show a1.recs = [⟨0, 5, 0, 0, ⟨#[120]⟩, false⟩] from rfl] at hr
  rw [List.mem_singleton.1 hr]
  unfold okRec u64 u32; decide
theorem code_a1 : ansCode a1 = 0 := by decide
theorem ok_a2 : ∀ r ∈ a2.recs, okRec r := by
  intro r hr
  rw [show a2.recs = [⟨1, 0, 0, 0, ⟨#[]⟩, false⟩] from rfl] at hr
  rw [List.mem_singleton.1 hr]
  unfold okRec u64 u32; decide
theorem code_a2 : ansCode a2 = 1 := by decide
theorem enc_o1 : (encT o1).length = 68 ∧ Bytes (encT o1) := by
  have hb := body_bytes 1 7 1 0 ⟨#[118]⟩ 0 0 0 0 (-3) (by decide)
  have hl := body_length 1 7 1 0 ⟨#[118]⟩ 0 0 0 0 (-3) (by decide)
  have e : encT o1 = opBody 1 7 1 0 ⟨#[118]⟩ 0 0 0 0 (-3) ++ sum4 (opBody 1 7 1 0 ⟨#[118]⟩ 0 0 0 0 (-3)) := by unfold encT; rw [if_pos code_o1]; rfl
  rw [e, seal_byt hb (by omega)]
  exact ⟨by rw [List.length_append, hl, SealF.q_len], bytes_append hb (SealF.q_byt _)⟩
theorem enc_a1 : (encA a1).length = 46 ∧ Bytes (encA a1) := by
  have hb := ansBody_bytes a1 (by decide)
  have hl := ansBody_length a1 (by decide)
  have e : encA a1 = ansBody a1 ++ sum4 (ansBody a1) := by unfold encA; rw [if_pos code_a1]
  rw [e, seal_byt hb (by rw [hl]; decide)]
  exact ⟨by rw [List.length_append, hl, SealF.q_len]; rfl, bytes_append hb (SealF.q_byt _)⟩
theorem isOp_one : isOpF [1] = (noOp, 5) := by
  have hb : Bytes [1] := fun x hx => by rw [List.mem_singleton.1 hx]; decide
  have hg := (SealF.get_f [1] hb (by decide)).2 (fun h => absurd h.1 (by decide))
  unfold isOpF
  rw [hg]
  rfl
theorem isBatch_zero : batchGo 2 [0] [] = none := by
  rw [batchGo, if_neg (by decide)]
  have : takeF [0] false 2 = ([], [0], true) := by decide
  simp only [this, takeF_bad]
  rfl
theorem enc_a2 : [] = encA a2 := by unfold encA; rw [code_a2, if_neg (by decide)]
set_option maxHeartbeats 8000000 in
set_option maxRecDepth 100000 in
theorem works_c (w : World) : Calls Try.prog 8 #[] w fun e w' => e = .returned (.bool true) ∧ Below w.heap.size w w' := by
  obtain ⟨X, hX⟩ : ∃ X, X = encT o1 := ⟨_, rfl⟩
  have hXl : X.length = 68 := by rw [hX]; exact enc_o1.1
  have hXb : Bytes X := by rw [hX]; exact enc_o1.2
  obtain ⟨Y, hY⟩ : ∃ Y, Y = encA a1 := ⟨_, rfl⟩
  have hYl : Y.length = 46 := by rw [hY]; exact enc_a1.1
  have hYb : Bytes Y := by rw [hY]; exact enc_a1.2
  have hiX : isOpF X = (o1, 0) := by rw [hX]; exact isOp_enc o1 ok_o1 code_o1
  have hiY : isAnsF Y = (a1, 0) := by rw [hY]; exact isAns_enc a1 code_a1 (by unfold i64 a1; decide) ok_a1
  obtain ⟨Z, hZ⟩ : ∃ Z, Z = batchB [X, Y] := ⟨_, rfl⟩
  have hZl : Z.length = 118 := by
    rw [hZ]
    simp only [batchB, List.flatMap_cons, List.flatMap_nil, List.length_append, putB_length, hXl, hYl, List.length_nil]
  have hbZ : batchGo (Z.length + 1) Z [] = if (0 : Int) = 0 then some [X, Y] else none := by
    rw [hZ, if_pos rfl, batch_put [X, Y] _ [] (by intro x hx; simp at hx; rcases hx with rfl | rfl <;> omega) (by rw [← hZ, hZl]; show 2 < 119; decide)]
    rfl
  replace hZ := Aside0.mk hZ
  replace hZl := Aside0.mk hZl
  replace hbZ := Aside0.mk hbZ
  replace hX := Aside0.mk hX
  replace hXl := Aside0.mk hXl
  replace hXb := Aside0.mk hXb
  replace hiX := Aside0.mk hiX
  replace hY := Aside0.mk hY
  replace hYl := Aside0.mk hYl
  replace hYb := Aside0.mk hYb
  replace hiY := Aside0.mk hiY
  have HB := Aside0.mk (Below.refl w.heap.size w)
  go_enter Try.func8, Try.ntmps8
  go_wp2_with fail
  have hb := below_alloc (Below.refl (World.heap w).size w) (.cells #[.int .i64 1, .int .u64 7, .int .u32 1, .int .u32 0, .string ⟨#[118]⟩, .int .u32 0, .int .u32 0, .int .u32 0, .int .u32 0, .int .i64 (-3)] 27 (0, 0))
  have BK1 := Aside0.mk (heap_alloc_new w (.cells #[.int .i64 1, .int .u64 7, .int .u32 1, .int .u32 0, .string ⟨#[118]⟩, .int .u32 0, .int .u32 0, .int .u32 0, .int .u32 0, .int .i64 (-3)] 27 (0, 0)))
  replace HB := Aside0.mk (below_step HB.out hb)
  clear hb
  generalize World.alloc w (.cells #[.int .i64 1, .int .u64 7, .int .u32 1, .int .u32 0, .string ⟨#[118]⟩, .int .u32 0, .int .u32 0, .int .u32 0, .int .u32 0, .int .i64 (-3)] 27 (0, 0)) = wa at HB BK1 ⊢
  refine (opE o1 ok_o1 wa X 0 hX.out code_o1.symm).mono ?_
  rintro e w1 ⟨A1, c1, rfl, hc1, hC1, hb⟩
  replace HB := Aside0.mk (below_step HB.out hb)
  replace BK1 := Aside0.mk (blk_below BK1.out hb)
  clear hb
  replace hC1 := Aside0.mk hC1
  go_wp2_with fail
  refine (isOpE A1 c1 _ X w1 rfl hC1.out hc1 hXb.out (by have := hXl.out; omega) o1 0 hiX.out).mono ?_
  rintro e w2 ⟨rfl, hb⟩
  replace HB := Aside0.mk (below_step HB.out hb)
  replace BK1 := Aside0.mk (blk_below BK1.out hb)
  replace hC1 := Aside0.mk (Kd.C_below hC1.out hb)
  clear hb
  rw [show opT o1 = #[.int .i64 1, .int .u64 7, .int .u32 1, .int .u32 0, .string ⟨#[118]⟩, .int .u32 0, .int .u32 0, .int .u32 0, .int .u32 0, .int .i64 (-3)] from rfl]
  go_wp2_with fail
  have hb := below_alloc (Below.refl (World.heap w2).size w2) (.cells #[.int .i64 1, .int .u64 7, .int .u32 1, .int .u32 0, .string ⟨#[118]⟩, .int .u32 0, .int .u32 0, .int .u32 0, .int .u32 0, .int .i64 (-3)] 27 (0, 0))
  have BK4 := Aside0.mk (heap_alloc_new w2 (.cells #[.int .i64 1, .int .u64 7, .int .u32 1, .int .u32 0, .string ⟨#[118]⟩, .int .u32 0, .int .u32 0, .int .u32 0, .int .u32 0, .int .i64 (-3)] 27 (0, 0)))
  have Hn_ : Aside0 ((World.alloc w2 (.cells #[.int .i64 1, .int .u64 7, .int .u32 1, .int .u32 0, .string ⟨#[118]⟩, .int .u32 0, .int .u32 0, .int .u32 0, .int .u32 0, .int .i64 (-3)] 27 (0, 0))).heap.size = (World.heap w2).size + 1) := ⟨by simp⟩
  replace HB := Aside0.mk (below_step HB.out hb)
  replace BK1 := Aside0.mk (blk_below BK1.out hb)
  replace hC1 := Aside0.mk (Kd.C_below hC1.out hb)
  clear hb
  generalize World.alloc w2 (.cells #[.int .i64 1, .int .u64 7, .int .u32 1, .int .u32 0, .string ⟨#[118]⟩, .int .u32 0, .int .u32 0, .int .u32 0, .int .u32 0, .int .i64 (-3)] 27 (0, 0)) = wb at HB BK1 hC1 BK4 Hn_ ⊢
  have Hzwb := Hn_
  clear Hn_
  have hb := below_alloc (Below.refl (World.heap wb).size wb) (.cells #[.int .u64 0, .int .u64 5, .int .u32 0, .int .u32 0, .string ⟨#[120]⟩, .bool false] 54 (0, 0))
  have BK5 := Aside0.mk (heap_alloc_new wb (.cells #[.int .u64 0, .int .u64 5, .int .u32 0, .int .u32 0, .string ⟨#[120]⟩, .bool false] 54 (0, 0)))
  have Hn_ : Aside0 ((World.alloc wb (.cells #[.int .u64 0, .int .u64 5, .int .u32 0, .int .u32 0, .string ⟨#[120]⟩, .bool false] 54 (0, 0))).heap.size = (World.heap w2).size + 1 + 1) := ⟨by simp [Hzwb.out]⟩
  rw [Hzwb.out] at BK5
  replace HB := Aside0.mk (below_step HB.out hb)
  replace BK1 := Aside0.mk (blk_below BK1.out hb)
  replace BK4 := Aside0.mk (blk_below BK4.out hb)
  replace hC1 := Aside0.mk (Kd.C_below hC1.out hb)
  clear hb
  have hC5 : Aside0 (Kd.C k54 (World.alloc wb (.cells #[.int .u64 0, .int .u64 5, .int .u32 0, .int .u32 0, .string ⟨#[120]⟩, .bool false] 54 (0, 0))) (some ⟨(World.heap w2).size + 1, 0, none⟩) 1 [(⟨0, 5, 0, 0, ⟨#[120]⟩, false⟩ : S54)]) := ⟨by rw [← Hzwb.out]; exact C_one k54 wb 54 _ (⟨0, 5, 0, 0, ⟨#[120]⟩, false⟩ : S54) (k54_mk _ (⟨0, 5, 0, 0, ⟨#[120]⟩, false⟩ : S54))⟩
  generalize World.alloc wb (.cells #[.int .u64 0, .int .u64 5, .int .u32 0, .int .u32 0, .string ⟨#[120]⟩, .bool false] 54 (0, 0)) = wc at HB BK1 BK4 hC1 BK5 hC5 Hn_ ⊢
  clear Hzwb
  have Hzwc := Hn_
  clear Hn_
  have hb := below_alloc (Below.refl (World.heap wc).size wc) (.cells #[.int .i64 7, .slice (some ⟨(World.heap w2).size + 1, 0, none⟩) 1 1, .int .i64 1] 31 (0, 0))
  have BK6 := Aside0.mk (heap_alloc_new wc (.cells #[.int .i64 7, .slice (some ⟨(World.heap w2).size + 1, 0, none⟩) 1 1, .int .i64 1] 31 (0, 0)))
  have Hn_ : Aside0 ((World.alloc wc (.cells #[.int .i64 7, .slice (some ⟨(World.heap w2).size + 1, 0, none⟩) 1 1, .int .i64 1] 31 (0, 0))).heap.size = (World.heap w2).size + 1 + 1 + 1) := ⟨by simp [Hzwc.out]⟩
  rw [Hzwc.out] at BK6
  replace HB := Aside0.mk (below_step HB.out hb)
  replace BK1 := Aside0.mk (blk_below BK1.out hb)
  replace BK4 := Aside0.mk (blk_below BK4.out hb)
  replace BK5 := Aside0.mk (blk_below BK5.out hb)
  replace hC1 := Aside0.mk (Kd.C_below hC1.out hb)
  replace hC5 := Aside0.mk (Kd.C_below hC5.out hb)
  clear hb
  generalize World.alloc wc (.cells #[.int .i64 7, .slice (some ⟨(World.heap w2).size + 1, 0, none⟩) 1 1, .int .i64 1] 31 (0, 0)) = wd at HB BK1 BK4 BK5 hC1 hC5 BK6 Hn_ ⊢
  clear Hzwc
  have Hzwd := Hn_
  clear Hn_
  clear Hzwd
  refine (ansE a1 _ 1 1 wd rfl hC5.out (Nat.le_refl 1) ok_a1 Y 0 hY.out code_a1.symm).mono ?_
  rintro e w3 ⟨A7, c7, rfl, hc7, hC7, hb⟩
  replace HB := Aside0.mk (below_step HB.out hb)
  replace BK1 := Aside0.mk (blk_below BK1.out hb)
  replace BK4 := Aside0.mk (blk_below BK4.out hb)
  replace BK5 := Aside0.mk (blk_below BK5.out hb)
  replace BK6 := Aside0.mk (blk_below BK6.out hb)
  replace hC1 := Aside0.mk (Kd.C_below hC1.out hb)
  replace hC5 := Aside0.mk (Kd.C_below hC5.out hb)
  clear hb
  replace hC7 := Aside0.mk hC7
  go_wp2_with fail
  refine (isAnsE A7 c7 _ Y w3 rfl hC7.out hc7 hYb.out (by have := hYl.out; omega) a1 0 hiY.out).mono ?_
  rintro e w4 ⟨A9, c9, rfl, hc9, hC9, hb⟩
  replace HB := Aside0.mk (below_step HB.out hb)
  replace BK1 := Aside0.mk (blk_below BK1.out hb)
  replace BK4 := Aside0.mk (blk_below BK4.out hb)
  replace BK5 := Aside0.mk (blk_below BK5.out hb)
  replace BK6 := Aside0.mk (blk_below BK6.out hb)
  replace hC1 := Aside0.mk (Kd.C_below hC1.out hb)
  replace hC5 := Aside0.mk (Kd.C_below hC5.out hb)
  replace hC7 := Aside0.mk (Kd.C_below hC7.out hb)
  clear hb
  replace hC9 := Aside0.mk hC9
  rw [show a1.code = (7 : Int) from rfl, show a1.n = (1 : Int) from rfl, show a1.recs.length = 1 from rfl]
  go_wp2_with fail
  have hb := below_alloc (Below.refl (World.heap w4).size w4) (.cells #[.int .i64 7, .slice A9 1 c9, .int .i64 1] 31 (0, 0))
  have BK9 := Aside0.mk (heap_alloc_new w4 (.cells #[.int .i64 7, .slice A9 1 c9, .int .i64 1] 31 (0, 0)))
  have Hn_ : Aside0 ((World.alloc w4 (.cells #[.int .i64 7, .slice A9 1 c9, .int .i64 1] 31 (0, 0))).heap.size = (World.heap w4).size + 1) := ⟨by simp⟩
  replace HB := Aside0.mk (below_step HB.out hb)
  replace BK1 := Aside0.mk (blk_below BK1.out hb)
  replace BK4 := Aside0.mk (blk_below BK4.out hb)
  replace BK5 := Aside0.mk (blk_below BK5.out hb)
  replace BK6 := Aside0.mk (blk_below BK6.out hb)
  replace hC1 := Aside0.mk (Kd.C_below hC1.out hb)
  replace hC5 := Aside0.mk (Kd.C_below hC5.out hb)
  replace hC7 := Aside0.mk (Kd.C_below hC7.out hb)
  replace hC9 := Aside0.mk (Kd.C_below hC9.out hb)
  clear hb
  generalize World.alloc w4 (.cells #[.int .i64 7, .slice A9 1 c9, .int .i64 1] 31 (0, 0)) = we at HB BK1 BK4 BK5 BK6 hC1 hC5 hC7 hC9 BK9 Hn_ ⊢
  have Hzwe := Hn_
  clear Hn_
  have hb := below_alloc (Below.refl (World.heap we).size we) (.cells #[.int .u64 1, .int .u64 0, .int .u32 0, .int .u32 0, .string ⟨#[]⟩, .bool false] 54 (0, 0))
  have BKr := Aside0.mk (heap_alloc_new we (.cells #[.int .u64 1, .int .u64 0, .int .u32 0, .int .u32 0, .string ⟨#[]⟩, .bool false] 54 (0, 0)))
  have Hn_ : Aside0 ((World.alloc we (.cells #[.int .u64 1, .int .u64 0, .int .u32 0, .int .u32 0, .string ⟨#[]⟩, .bool false] 54 (0, 0))).heap.size = (World.heap w4).size + 1 + 1) := ⟨by simp [Hzwe.out]⟩
  rw [Hzwe.out] at BKr
  replace HB := Aside0.mk (below_step HB.out hb)
  replace BK1 := Aside0.mk (blk_below BK1.out hb)
  replace BK4 := Aside0.mk (blk_below BK4.out hb)
  replace BK5 := Aside0.mk (blk_below BK5.out hb)
  replace BK6 := Aside0.mk (blk_below BK6.out hb)
  replace BK9 := Aside0.mk (blk_below BK9.out hb)
  replace hC1 := Aside0.mk (Kd.C_below hC1.out hb)
  replace hC5 := Aside0.mk (Kd.C_below hC5.out hb)
  replace hC7 := Aside0.mk (Kd.C_below hC7.out hb)
  replace hC9 := Aside0.mk (Kd.C_below hC9.out hb)
  clear hb
  have hCr : Aside0 (Kd.C k54 (World.alloc we (.cells #[.int .u64 1, .int .u64 0, .int .u32 0, .int .u32 0, .string ⟨#[]⟩, .bool false] 54 (0, 0))) (some ⟨(World.heap w4).size + 1, 0, none⟩) 1 [(⟨1, 0, 0, 0, ⟨#[]⟩, false⟩ : S54)]) := ⟨by rw [← Hzwe.out]; exact C_one k54 we 54 _ (⟨1, 0, 0, 0, ⟨#[]⟩, false⟩ : S54) (k54_mk _ (⟨1, 0, 0, 0, ⟨#[]⟩, false⟩ : S54))⟩
  generalize World.alloc we (.cells #[.int .u64 1, .int .u64 0, .int .u32 0, .int .u32 0, .string ⟨#[]⟩, .bool false] 54 (0, 0)) = wf at HB BK1 BK4 BK5 BK6 BK9 hC1 hC5 hC7 hC9 BKr hCr Hn_ ⊢
  clear Hzwe
  have Hzwf := Hn_
  clear Hn_
  clear Hzwf
  refine (ansE a2 _ 1 1 wf rfl hCr.out (Nat.le_refl 1) ok_a2 [] 1 enc_a2 code_a2.symm).mono ?_
  rintro e w5 ⟨A11, c11, rfl, hc11, hC11, hb⟩
  replace HB := Aside0.mk (below_step HB.out hb)
  replace BK1 := Aside0.mk (blk_below BK1.out hb)
  replace BK4 := Aside0.mk (blk_below BK4.out hb)
  replace BK5 := Aside0.mk (blk_below BK5.out hb)
  replace BK6 := Aside0.mk (blk_below BK6.out hb)
  replace BK9 := Aside0.mk (blk_below BK9.out hb)
  replace BKr := Aside0.mk (blk_below BKr.out hb)
  replace hC1 := Aside0.mk (Kd.C_below hC1.out hb)
  replace hC5 := Aside0.mk (Kd.C_below hC5.out hb)
  replace hC7 := Aside0.mk (Kd.C_below hC7.out hb)
  replace hC9 := Aside0.mk (Kd.C_below hC9.out hb)
  replace hCr := Aside0.mk (Kd.C_below hCr.out hb)
  clear hb
  clear hC11
  go_wp2_with fail
  have hb := below_alloc (Below.refl (World.heap w5).size w5) (.cells #[.slice A1 X.length c1, .slice A7 Y.length c7] 34 (0, 0))
  have BKb := Aside0.mk (heap_alloc_new w5 (.cells #[.slice A1 X.length c1, .slice A7 Y.length c7] 34 (0, 0)))
  have Hn_ : Aside0 ((World.alloc w5 (.cells #[.slice A1 X.length c1, .slice A7 Y.length c7] 34 (0, 0))).heap.size = (World.heap w5).size + 1) := ⟨by simp⟩
  replace HB := Aside0.mk (below_step HB.out hb)
  replace BK1 := Aside0.mk (blk_below BK1.out hb)
  replace BK4 := Aside0.mk (blk_below BK4.out hb)
  replace BK5 := Aside0.mk (blk_below BK5.out hb)
  replace BK6 := Aside0.mk (blk_below BK6.out hb)
  replace BK9 := Aside0.mk (blk_below BK9.out hb)
  replace BKr := Aside0.mk (blk_below BKr.out hb)
  replace hC1 := Aside0.mk (Kd.C_below hC1.out hb)
  replace hC5 := Aside0.mk (Kd.C_below hC5.out hb)
  replace hC7 := Aside0.mk (Kd.C_below hC7.out hb)
  replace hC9 := Aside0.mk (Kd.C_below hC9.out hb)
  replace hCr := Aside0.mk (Kd.C_below hCr.out hb)
  clear hb
  have hCb : Aside0 (Kd.C (Kd.slice 5 (Kd.int .u8)) (World.alloc w5 (.cells #[.slice A1 X.length c1, .slice A7 Y.length c7] 34 (0, 0))) (some ⟨(World.heap w5).size, 0, none⟩) 2 [X, Y]) := ⟨C_two (Kd.slice 5 (Kd.int .u8)) w5 34 [.slice A1 X.length c1] [.slice A7 Y.length c7] X Y ⟨A1, c1, rfl, hc1, hC1.out⟩ ⟨A7, c7, rfl, hc7, hC7.out⟩⟩
  generalize World.alloc w5 (.cells #[.slice A1 X.length c1, .slice A7 Y.length c7] 34 (0, 0)) = wg at HB BK1 BK4 BK5 BK6 BK9 BKr hC1 hC5 hC7 hC9 hCr BKb hCb Hn_ ⊢
  have Hzwg := Hn_
  clear Hn_
  clear Hzwg
  refine (batchE _ 2 2 [X, Y] wg rfl hCb.out (Nat.le_refl 2) (by intro x hx; have h1 := hXl.out; have h2 := hYl.out; simp at hx; rcases hx with rfl | rfl <;> omega) (show 2 < 1000000 by decide) (by have h3 := hZl.out; rw [← hZ.out]; omega) Z hZ.out).mono ?_
  rintro e w6 ⟨A13, c13, rfl, hc13, hC13, hb⟩
  replace HB := Aside0.mk (below_step HB.out hb)
  replace BK1 := Aside0.mk (blk_below BK1.out hb)
  replace BK4 := Aside0.mk (blk_below BK4.out hb)
  replace BK5 := Aside0.mk (blk_below BK5.out hb)
  replace BK6 := Aside0.mk (blk_below BK6.out hb)
  replace BK9 := Aside0.mk (blk_below BK9.out hb)
  replace BKr := Aside0.mk (blk_below BKr.out hb)
  replace BKb := Aside0.mk (blk_below BKb.out hb)
  replace hC1 := Aside0.mk (Kd.C_below hC1.out hb)
  replace hC5 := Aside0.mk (Kd.C_below hC5.out hb)
  replace hC7 := Aside0.mk (Kd.C_below hC7.out hb)
  replace hC9 := Aside0.mk (Kd.C_below hC9.out hb)
  replace hCr := Aside0.mk (Kd.C_below hCr.out hb)
  replace hCb := Aside0.mk (Kd.C_below hCb.out hb)
  clear hb
  replace hC13 := Aside0.mk hC13
  go_wp2_with fail
  refine (isBatchE A13 c13 _ Z w6 rfl hC13.out hc13 (by have := hZl.out; omega) [X, Y] 0 hbZ.out (.inl rfl)).mono ?_
  rintro e w7 ⟨A15, c15, rfl, hc15, hC15, hb⟩
  replace HB := Aside0.mk (below_step HB.out hb)
  replace BK1 := Aside0.mk (blk_below BK1.out hb)
  replace BK4 := Aside0.mk (blk_below BK4.out hb)
  replace BK5 := Aside0.mk (blk_below BK5.out hb)
  replace BK6 := Aside0.mk (blk_below BK6.out hb)
  replace BK9 := Aside0.mk (blk_below BK9.out hb)
  replace BKr := Aside0.mk (blk_below BKr.out hb)
  replace BKb := Aside0.mk (blk_below BKb.out hb)
  replace hC1 := Aside0.mk (Kd.C_below hC1.out hb)
  replace hC5 := Aside0.mk (Kd.C_below hC5.out hb)
  replace hC7 := Aside0.mk (Kd.C_below hC7.out hb)
  replace hC9 := Aside0.mk (Kd.C_below hC9.out hb)
  replace hCr := Aside0.mk (Kd.C_below hCr.out hb)
  replace hCb := Aside0.mk (Kd.C_below hCb.out hb)
  replace hC13 := Aside0.mk (Kd.C_below hC13.out hb)
  clear hb
  replace hC15 := Aside0.mk hC15
  go_wp2_with fail
  have hb := below_alloc (Below.refl (World.heap w7).size w7) (.cells #[.int .u8 0] 5 (0, 0))
  have BK0 := Aside0.mk (heap_alloc_new w7 (.cells #[.int .u8 0] 5 (0, 0)))
  have Hn_ : Aside0 ((World.alloc w7 (.cells #[.int .u8 0] 5 (0, 0))).heap.size = (World.heap w7).size + 1) := ⟨by simp⟩
  replace HB := Aside0.mk (below_step HB.out hb)
  replace BK1 := Aside0.mk (blk_below BK1.out hb)
  replace BK4 := Aside0.mk (blk_below BK4.out hb)
  replace BK5 := Aside0.mk (blk_below BK5.out hb)
  replace BK6 := Aside0.mk (blk_below BK6.out hb)
  replace BK9 := Aside0.mk (blk_below BK9.out hb)
  replace BKr := Aside0.mk (blk_below BKr.out hb)
  replace BKb := Aside0.mk (blk_below BKb.out hb)
  replace hC1 := Aside0.mk (Kd.C_below hC1.out hb)
  replace hC5 := Aside0.mk (Kd.C_below hC5.out hb)
  replace hC7 := Aside0.mk (Kd.C_below hC7.out hb)
  replace hC9 := Aside0.mk (Kd.C_below hC9.out hb)
  replace hCr := Aside0.mk (Kd.C_below hCr.out hb)
  replace hCb := Aside0.mk (Kd.C_below hCb.out hb)
  replace hC13 := Aside0.mk (Kd.C_below hC13.out hb)
  replace hC15 := Aside0.mk (Kd.C_below hC15.out hb)
  clear hb
  have hC0 : Aside0 (Kd.C (Kd.int .u8) (World.alloc w7 (.cells #[.int .u8 0] 5 (0, 0))) (some ⟨(World.heap w7).size, 0, none⟩) 1 [0]) := ⟨C_one (Kd.int .u8) w7 5 [.int .u8 0] 0 rfl⟩
  generalize World.alloc w7 (.cells #[.int .u8 0] 5 (0, 0)) = wh at HB BK1 BK4 BK5 BK6 BK9 BKr BKb hC1 hC5 hC7 hC9 hCr hCb hC13 hC15 BK0 hC0 Hn_ ⊢
  have Hzwh := Hn_
  clear Hn_
  clear Hzwh
  refine (isBatchE _ 1 1 [0] wh rfl hC0.out (Nat.le_refl 1) (by decide) [] 3 isBatch_zero (.inr ⟨rfl, rfl⟩)).mono ?_
  rintro e w8 ⟨A17, c17, rfl, hc17, hC17, hb⟩
  replace HB := Aside0.mk (below_step HB.out hb)
  replace BK1 := Aside0.mk (blk_below BK1.out hb)
  replace BK4 := Aside0.mk (blk_below BK4.out hb)
  replace BK5 := Aside0.mk (blk_below BK5.out hb)
  replace BK6 := Aside0.mk (blk_below BK6.out hb)
  replace BK9 := Aside0.mk (blk_below BK9.out hb)
  replace BKr := Aside0.mk (blk_below BKr.out hb)
  replace BKb := Aside0.mk (blk_below BKb.out hb)
  replace BK0 := Aside0.mk (blk_below BK0.out hb)
  replace hC1 := Aside0.mk (Kd.C_below hC1.out hb)
  replace hC5 := Aside0.mk (Kd.C_below hC5.out hb)
  replace hC7 := Aside0.mk (Kd.C_below hC7.out hb)
  replace hC9 := Aside0.mk (Kd.C_below hC9.out hb)
  replace hCr := Aside0.mk (Kd.C_below hCr.out hb)
  replace hCb := Aside0.mk (Kd.C_below hCb.out hb)
  replace hC13 := Aside0.mk (Kd.C_below hC13.out hb)
  replace hC15 := Aside0.mk (Kd.C_below hC15.out hb)
  replace hC0 := Aside0.mk (Kd.C_below hC0.out hb)
  clear hb
  clear hC17
  go_wp2_with fail
  have hb := below_alloc (Below.refl (World.heap w8).size w8) (.cells #[.int .u8 1] 5 (0, 0))
  have BKo := Aside0.mk (heap_alloc_new w8 (.cells #[.int .u8 1] 5 (0, 0)))
  have Hn_ : Aside0 ((World.alloc w8 (.cells #[.int .u8 1] 5 (0, 0))).heap.size = (World.heap w8).size + 1) := ⟨by simp⟩
  replace HB := Aside0.mk (below_step HB.out hb)
  replace BK1 := Aside0.mk (blk_below BK1.out hb)
  replace BK4 := Aside0.mk (blk_below BK4.out hb)
  replace BK5 := Aside0.mk (blk_below BK5.out hb)
  replace BK6 := Aside0.mk (blk_below BK6.out hb)
  replace BK9 := Aside0.mk (blk_below BK9.out hb)
  replace BKr := Aside0.mk (blk_below BKr.out hb)
  replace BKb := Aside0.mk (blk_below BKb.out hb)
  replace BK0 := Aside0.mk (blk_below BK0.out hb)
  replace hC1 := Aside0.mk (Kd.C_below hC1.out hb)
  replace hC5 := Aside0.mk (Kd.C_below hC5.out hb)
  replace hC7 := Aside0.mk (Kd.C_below hC7.out hb)
  replace hC9 := Aside0.mk (Kd.C_below hC9.out hb)
  replace hCr := Aside0.mk (Kd.C_below hCr.out hb)
  replace hCb := Aside0.mk (Kd.C_below hCb.out hb)
  replace hC13 := Aside0.mk (Kd.C_below hC13.out hb)
  replace hC15 := Aside0.mk (Kd.C_below hC15.out hb)
  replace hC0 := Aside0.mk (Kd.C_below hC0.out hb)
  clear hb
  have hCo : Aside0 (Kd.C (Kd.int .u8) (World.alloc w8 (.cells #[.int .u8 1] 5 (0, 0))) (some ⟨(World.heap w8).size, 0, none⟩) 1 [1]) := ⟨C_one (Kd.int .u8) w8 5 [.int .u8 1] 1 rfl⟩
  generalize World.alloc w8 (.cells #[.int .u8 1] 5 (0, 0)) = wi at HB BK1 BK4 BK5 BK6 BK9 BKr BKb BK0 hC1 hC5 hC7 hC9 hCr hCb hC13 hC15 hC0 BKo hCo Hn_ ⊢
  have Hzwi := Hn_
  clear Hn_
  clear Hzwi
  refine (isOpE _ 1 1 [1] wi rfl hCo.out (Nat.le_refl 1) (fun x hx => by rw [List.mem_singleton.1 hx]; decide) (Nat.le_of_ble_eq_true rfl) noOp 5 isOp_one).mono ?_
  rintro e w9 ⟨rfl, hb⟩
  replace HB := Aside0.mk (below_step HB.out hb)
  replace BK1 := Aside0.mk (blk_below BK1.out hb)
  replace BK4 := Aside0.mk (blk_below BK4.out hb)
  replace BK5 := Aside0.mk (blk_below BK5.out hb)
  replace BK6 := Aside0.mk (blk_below BK6.out hb)
  replace BK9 := Aside0.mk (blk_below BK9.out hb)
  replace BKr := Aside0.mk (blk_below BKr.out hb)
  replace BKb := Aside0.mk (blk_below BKb.out hb)
  replace BK0 := Aside0.mk (blk_below BK0.out hb)
  replace BKo := Aside0.mk (blk_below BKo.out hb)
  replace hC1 := Aside0.mk (Kd.C_below hC1.out hb)
  replace hC5 := Aside0.mk (Kd.C_below hC5.out hb)
  replace hC7 := Aside0.mk (Kd.C_below hC7.out hb)
  replace hC9 := Aside0.mk (Kd.C_below hC9.out hb)
  replace hCr := Aside0.mk (Kd.C_below hCr.out hb)
  replace hCb := Aside0.mk (Kd.C_below hCb.out hb)
  replace hC13 := Aside0.mk (Kd.C_below hC13.out hb)
  replace hC15 := Aside0.mk (Kd.C_below hC15.out hb)
  replace hC0 := Aside0.mk (Kd.C_below hC0.out hb)
  replace hCo := Aside0.mk (Kd.C_below hCo.out hb)
  clear hb
  rw [show opT noOp = #[.int .i64 0, .int .u64 0, .int .u32 0, .int .u32 0, .string ⟨#[]⟩, .int .u32 0, .int .u32 0, .int .u32 0, .int .u32 0, .int .i64 0] from rfl]
  have fBK1_0 : World.cell? (World.alloc w9 (.cells #[.int .i64 0, .int .u64 0, .int .u32 0, .int .u32 0, .string ⟨#[]⟩, .int .u32 0, .int .u32 0, .int .u32 0, .int .u32 0, .int .i64 0] 27 (0, 0))) ⟨(World.heap w).size, 0, none⟩ = some (.int .i64 1) := (blk_cell (blk_alloc BK1.out _) 0).trans rfl
  have fBK1_1 : World.cell? (World.alloc w9 (.cells #[.int .i64 0, .int .u64 0, .int .u32 0, .int .u32 0, .string ⟨#[]⟩, .int .u32 0, .int .u32 0, .int .u32 0, .int .u32 0, .int .i64 0] 27 (0, 0))) ⟨(World.heap w).size, 1, none⟩ = some (.int .u64 7) := (blk_cell (blk_alloc BK1.out _) 1).trans rfl
  have fBK1_2 : World.cell? (World.alloc w9 (.cells #[.int .i64 0, .int .u64 0, .int .u32 0, .int .u32 0, .string ⟨#[]⟩, .int .u32 0, .int .u32 0, .int .u32 0, .int .u32 0, .int .i64 0] 27 (0, 0))) ⟨(World.heap w).size, 2, none⟩ = some (.int .u32 1) := (blk_cell (blk_alloc BK1.out _) 2).trans rfl
  have fBK1_3 : World.cell? (World.alloc w9 (.cells #[.int .i64 0, .int .u64 0, .int .u32 0, .int .u32 0, .string ⟨#[]⟩, .int .u32 0, .int .u32 0, .int .u32 0, .int .u32 0, .int .i64 0] 27 (0, 0))) ⟨(World.heap w).size, 3, none⟩ = some (.int .u32 0) := (blk_cell (blk_alloc BK1.out _) 3).trans rfl
  have fBK1_4 : World.cell? (World.alloc w9 (.cells #[.int .i64 0, .int .u64 0, .int .u32 0, .int .u32 0, .string ⟨#[]⟩, .int .u32 0, .int .u32 0, .int .u32 0, .int .u32 0, .int .i64 0] 27 (0, 0))) ⟨(World.heap w).size, 4, none⟩ = some (.string ⟨#[118]⟩) := (blk_cell (blk_alloc BK1.out _) 4).trans rfl
  have fBK1_5 : World.cell? (World.alloc w9 (.cells #[.int .i64 0, .int .u64 0, .int .u32 0, .int .u32 0, .string ⟨#[]⟩, .int .u32 0, .int .u32 0, .int .u32 0, .int .u32 0, .int .i64 0] 27 (0, 0))) ⟨(World.heap w).size, 5, none⟩ = some (.int .u32 0) := (blk_cell (blk_alloc BK1.out _) 5).trans rfl
  have fBK1_6 : World.cell? (World.alloc w9 (.cells #[.int .i64 0, .int .u64 0, .int .u32 0, .int .u32 0, .string ⟨#[]⟩, .int .u32 0, .int .u32 0, .int .u32 0, .int .u32 0, .int .i64 0] 27 (0, 0))) ⟨(World.heap w).size, 6, none⟩ = some (.int .u32 0) := (blk_cell (blk_alloc BK1.out _) 6).trans rfl
  have fBK1_7 : World.cell? (World.alloc w9 (.cells #[.int .i64 0, .int .u64 0, .int .u32 0, .int .u32 0, .string ⟨#[]⟩, .int .u32 0, .int .u32 0, .int .u32 0, .int .u32 0, .int .i64 0] 27 (0, 0))) ⟨(World.heap w).size, 7, none⟩ = some (.int .u32 0) := (blk_cell (blk_alloc BK1.out _) 7).trans rfl
  have fBK1_8 : World.cell? (World.alloc w9 (.cells #[.int .i64 0, .int .u64 0, .int .u32 0, .int .u32 0, .string ⟨#[]⟩, .int .u32 0, .int .u32 0, .int .u32 0, .int .u32 0, .int .i64 0] 27 (0, 0))) ⟨(World.heap w).size, 8, none⟩ = some (.int .u32 0) := (blk_cell (blk_alloc BK1.out _) 8).trans rfl
  have fBK1_9 : World.cell? (World.alloc w9 (.cells #[.int .i64 0, .int .u64 0, .int .u32 0, .int .u32 0, .string ⟨#[]⟩, .int .u32 0, .int .u32 0, .int .u32 0, .int .u32 0, .int .i64 0] 27 (0, 0))) ⟨(World.heap w).size, 9, none⟩ = some (.int .i64 (-3)) := (blk_cell (blk_alloc BK1.out _) 9).trans rfl
  have fBK4_0 : World.cell? (World.alloc w9 (.cells #[.int .i64 0, .int .u64 0, .int .u32 0, .int .u32 0, .string ⟨#[]⟩, .int .u32 0, .int .u32 0, .int .u32 0, .int .u32 0, .int .i64 0] 27 (0, 0))) ⟨(World.heap w2).size, 0, none⟩ = some (.int .i64 1) := (blk_cell (blk_alloc BK4.out _) 0).trans rfl
  have fBK4_1 : World.cell? (World.alloc w9 (.cells #[.int .i64 0, .int .u64 0, .int .u32 0, .int .u32 0, .string ⟨#[]⟩, .int .u32 0, .int .u32 0, .int .u32 0, .int .u32 0, .int .i64 0] 27 (0, 0))) ⟨(World.heap w2).size, 1, none⟩ = some (.int .u64 7) := (blk_cell (blk_alloc BK4.out _) 1).trans rfl
  have fBK4_2 : World.cell? (World.alloc w9 (.cells #[.int .i64 0, .int .u64 0, .int .u32 0, .int .u32 0, .string ⟨#[]⟩, .int .u32 0, .int .u32 0, .int .u32 0, .int .u32 0, .int .i64 0] 27 (0, 0))) ⟨(World.heap w2).size, 2, none⟩ = some (.int .u32 1) := (blk_cell (blk_alloc BK4.out _) 2).trans rfl
  have fBK4_3 : World.cell? (World.alloc w9 (.cells #[.int .i64 0, .int .u64 0, .int .u32 0, .int .u32 0, .string ⟨#[]⟩, .int .u32 0, .int .u32 0, .int .u32 0, .int .u32 0, .int .i64 0] 27 (0, 0))) ⟨(World.heap w2).size, 3, none⟩ = some (.int .u32 0) := (blk_cell (blk_alloc BK4.out _) 3).trans rfl
  have fBK4_4 : World.cell? (World.alloc w9 (.cells #[.int .i64 0, .int .u64 0, .int .u32 0, .int .u32 0, .string ⟨#[]⟩, .int .u32 0, .int .u32 0, .int .u32 0, .int .u32 0, .int .i64 0] 27 (0, 0))) ⟨(World.heap w2).size, 4, none⟩ = some (.string ⟨#[118]⟩) := (blk_cell (blk_alloc BK4.out _) 4).trans rfl
  have fBK4_5 : World.cell? (World.alloc w9 (.cells #[.int .i64 0, .int .u64 0, .int .u32 0, .int .u32 0, .string ⟨#[]⟩, .int .u32 0, .int .u32 0, .int .u32 0, .int .u32 0, .int .i64 0] 27 (0, 0))) ⟨(World.heap w2).size, 5, none⟩ = some (.int .u32 0) := (blk_cell (blk_alloc BK4.out _) 5).trans rfl
  have fBK4_6 : World.cell? (World.alloc w9 (.cells #[.int .i64 0, .int .u64 0, .int .u32 0, .int .u32 0, .string ⟨#[]⟩, .int .u32 0, .int .u32 0, .int .u32 0, .int .u32 0, .int .i64 0] 27 (0, 0))) ⟨(World.heap w2).size, 6, none⟩ = some (.int .u32 0) := (blk_cell (blk_alloc BK4.out _) 6).trans rfl
  have fBK4_7 : World.cell? (World.alloc w9 (.cells #[.int .i64 0, .int .u64 0, .int .u32 0, .int .u32 0, .string ⟨#[]⟩, .int .u32 0, .int .u32 0, .int .u32 0, .int .u32 0, .int .i64 0] 27 (0, 0))) ⟨(World.heap w2).size, 7, none⟩ = some (.int .u32 0) := (blk_cell (blk_alloc BK4.out _) 7).trans rfl
  have fBK4_8 : World.cell? (World.alloc w9 (.cells #[.int .i64 0, .int .u64 0, .int .u32 0, .int .u32 0, .string ⟨#[]⟩, .int .u32 0, .int .u32 0, .int .u32 0, .int .u32 0, .int .i64 0] 27 (0, 0))) ⟨(World.heap w2).size, 8, none⟩ = some (.int .u32 0) := (blk_cell (blk_alloc BK4.out _) 8).trans rfl
  have fBK4_9 : World.cell? (World.alloc w9 (.cells #[.int .i64 0, .int .u64 0, .int .u32 0, .int .u32 0, .string ⟨#[]⟩, .int .u32 0, .int .u32 0, .int .u32 0, .int .u32 0, .int .i64 0] 27 (0, 0))) ⟨(World.heap w2).size, 9, none⟩ = some (.int .i64 (-3)) := (blk_cell (blk_alloc BK4.out _) 9).trans rfl
  have fBK6_0 : World.cell? (World.alloc w9 (.cells #[.int .i64 0, .int .u64 0, .int .u32 0, .int .u32 0, .string ⟨#[]⟩, .int .u32 0, .int .u32 0, .int .u32 0, .int .u32 0, .int .i64 0] 27 (0, 0))) ⟨(World.heap w2).size + 1 + 1, 0, none⟩ = some (.int .i64 7) := (blk_cell (blk_alloc BK6.out _) 0).trans rfl
  have fBK6_1 : World.cell? (World.alloc w9 (.cells #[.int .i64 0, .int .u64 0, .int .u32 0, .int .u32 0, .string ⟨#[]⟩, .int .u32 0, .int .u32 0, .int .u32 0, .int .u32 0, .int .i64 0] 27 (0, 0))) ⟨(World.heap w2).size + 1 + 1, 1, none⟩ = some (.slice (some ⟨(World.heap w2).size + 1, 0, none⟩) 1 1) := (blk_cell (blk_alloc BK6.out _) 1).trans rfl
  have fBK6_2 : World.cell? (World.alloc w9 (.cells #[.int .i64 0, .int .u64 0, .int .u32 0, .int .u32 0, .string ⟨#[]⟩, .int .u32 0, .int .u32 0, .int .u32 0, .int .u32 0, .int .i64 0] 27 (0, 0))) ⟨(World.heap w2).size + 1 + 1, 2, none⟩ = some (.int .i64 1) := (blk_cell (blk_alloc BK6.out _) 2).trans rfl
  have fBK9_0 : World.cell? (World.alloc w9 (.cells #[.int .i64 0, .int .u64 0, .int .u32 0, .int .u32 0, .string ⟨#[]⟩, .int .u32 0, .int .u32 0, .int .u32 0, .int .u32 0, .int .i64 0] 27 (0, 0))) ⟨(World.heap w4).size, 0, none⟩ = some (.int .i64 7) := (blk_cell (blk_alloc BK9.out _) 0).trans rfl
  have fBK9_1 : World.cell? (World.alloc w9 (.cells #[.int .i64 0, .int .u64 0, .int .u32 0, .int .u32 0, .string ⟨#[]⟩, .int .u32 0, .int .u32 0, .int .u32 0, .int .u32 0, .int .i64 0] 27 (0, 0))) ⟨(World.heap w4).size, 1, none⟩ = some (.slice A9 1 c9) := (blk_cell (blk_alloc BK9.out _) 1).trans rfl
  have fBK9_2 : World.cell? (World.alloc w9 (.cells #[.int .i64 0, .int .u64 0, .int .u32 0, .int .u32 0, .string ⟨#[]⟩, .int .u32 0, .int .u32 0, .int .u32 0, .int .u32 0, .int .i64 0] 27 (0, 0))) ⟨(World.heap w4).size, 2, none⟩ = some (.int .i64 1) := (blk_cell (blk_alloc BK9.out _) 2).trans rfl
  have hx1 : (X.length : Int) = 68 := by have := hXl.out; omega
  have hx2 := hXl.out
  go_wp2_with fail
  refine (same21E a1 _ 1 1 _ c9 1 _ rfl rfl (Kd.C_alloc hC5.out _) (Nat.le_refl 1) (Kd.C_alloc hC9.out _) hc9 (show 1 < 1000000 by decide)).mono ?_
  rintro e w10 ⟨rfl, hb⟩
  replace hC15 := Aside0.mk (Kd.C_below (Kd.C_alloc hC15.out _) hb)
  have HBz := Aside0.mk (below_step (below_alloc HB.out _) hb)
  obtain ⟨ad, e15, hcell⟩ := hC15.out.2.2 (by show 0 < 2; decide)
  obtain ⟨cc, _, ⟨Ax, cx, rfl, _, _⟩, hcc⟩ := hcell 0 X rfl
  have hq := hcc 0 _ rfl
  rw [show ad.add (0 * (Kd.slice 5 (Kd.int .u8)).sz + 0) = ad by simp [Addr.add]] at hq
  subst e15
  clear hcell hcc
  go_wp2_with fail
  go_ret
  exact ⟨rfl, HBz.out⟩
end Go.Proofs.Ytnhkpolfkmpldaa.PAll

/- What the laws of parcels are handed, opened; the laws' common facts. -/
namespace Go.Proofs.Ytnhkpolfkmpldaa.PAll
open Go.RowKit Go.Proofs.YtnhkpolfkmpldaaW.PrintWords Go.Proofs.YtnhkpolfkmpldaaW.PrintLast Go.Proofs.YtnhkpolfkmpldaaW.PrintMore
set_option linter.unusedVariables false
set_option linter.unusedSimpArgs false

def kOp : Kd OpT := Kd.pair (Kd.int .i64) (Kd.pair (Kd.int .u64) (Kd.pair (Kd.int .u32) (Kd.pair (Kd.int .u32) (Kd.pair Kd.string (Kd.pair (Kd.int .u32) (Kd.pair (Kd.int .u32) (Kd.pair (Kd.int .u32) (Kd.pair (Kd.int .u32) (Kd.int .i64)))))))))
abbrev AnsP := Int × List S54 × Int
def AnsP.a (x : AnsP) : AnsT := ⟨x.1, x.2.1, x.2.2⟩
def kAns : Kd AnsP := Kd.pair (Kd.int .i64) (Kd.pair (Kd.slice 54 k54) (Kd.int .i64))
theorem kOp_open {w : World} {x : OpT} {cs : List Value} (h : kOp.K w x cs) : cs = (opT x).toList := by
  obtain ⟨a, b, c, d, e, f, g, i, j, k⟩ := x
  obtain ⟨_, _, rfl, rfl, ⟨_, _, rfl, rfl, ⟨_, _, rfl, rfl, ⟨_, _, rfl, rfl, ⟨_, _, rfl, rfl, ⟨_, _, rfl, rfl, ⟨_, _, rfl, rfl, ⟨_, _, rfl, rfl, ⟨_, _, rfl, rfl, rfl⟩⟩⟩⟩⟩⟩⟩⟩⟩ := h
  exact rfl
theorem kAns_open {w : World} {x : AnsP} {cs : List Value} (h : kAns.K w x cs) : ∃ A c, cs = [.int .i64 x.1, .slice A x.2.1.length c, .int .i64 x.2.2] ∧ x.2.1.length ≤ c ∧ Kd.C k54 w A x.2.1.length x.2.1 := by
  obtain ⟨_, _, rfl, rfl, ⟨_, _, rfl, ⟨A, c, rfl, h1, h2⟩, rfl⟩⟩ := h
  exact ⟨A, c, rfl, h1, h2⟩
theorem wf_i64 {n : Int} (h : (Lit.int .i64 n).wf = true) : i64 n := by
  simp [Lit.wf, IntKind.min, IntKind.max, IntKind.signed, IntKind.bits] at h
  unfold i64; omega
theorem wf_u64 {n : Int} (h : (Lit.int .u64 n).wf = true) : u64 n := by
  simp [Lit.wf, IntKind.min, IntKind.max, IntKind.signed, IntKind.bits] at h
  unfold u64; omega
theorem wf_u32 {n : Int} (h : (Lit.int .u32 n).wf = true) : u32 n := by
  simp [Lit.wf, IntKind.min, IntKind.max, IntKind.signed, IntKind.bits] at h
  unfold u32; omega
open Opens2 in
theorem opOp : Opens2.Op Try.prog 27 kOp okOp := by
  refine op_mono (op_struct Try.underlying27 (by kernel_rfl) (opF_cons rfl (op_int (k := .i64) Try.underlying3 (by kernel_rfl)) (opF_cons rfl (op_int (k := .u64) Try.underlying22 (by kernel_rfl)) (opF_cons rfl (op_int (k := .u32) Try.underlying23 (by kernel_rfl)) (opF_cons rfl (op_int (k := .u32) Try.underlying23 (by kernel_rfl)) (opF_cons rfl (op_string Try.underlying9 (by kernel_rfl)) (opF_in Try.underlying25 (by decide +kernel) (opF_cons rfl (op_int (k := .u32) Try.underlying23 (by kernel_rfl)) (opF_cons rfl (op_int (k := .u32) Try.underlying23 (by kernel_rfl)) (opF_cons rfl (op_int (k := .u32) Try.underlying23 (by kernel_rfl)) (opF_cons rfl (op_int (k := .u32) Try.underlying23 (by kernel_rfl)) (opF_one rfl (op_int (k := .i64) Try.underlying3 (by kernel_rfl)))))))))))))) ?_
  intro x h
  obtain ⟨a, b, c, d, e, f, g, i, j, k⟩ := x
  obtain ⟨h1, h2, h3, h4, h5, h6, h7, h8, h9, h10⟩ := h
  exact ⟨wf_i64 h1, wf_u64 h2, wf_u32 h3, wf_u32 h4, wf_u32 h6, wf_u32 h7, wf_u32 h8, wf_u32 h9, wf_i64 h10⟩
def okAns (x : AnsP) : Prop := i64 x.1 ∧ i64 x.2.2 ∧ ∀ r ∈ x.2.1, okRec r
open Opens2 in
theorem opRec : Opens2.Op Try.prog 54 k54 okRec := by
  refine op_mono (op_iso (op_struct Try.underlying54 (by kernel_rfl) (opF_cons rfl (op_int (k := .u64) Try.underlying22 (by kernel_rfl)) (opF_cons rfl (op_int (k := .u64) Try.underlying22 (by kernel_rfl)) (opF_cons rfl (op_int (k := .u32) Try.underlying23 (by kernel_rfl)) (opF_cons rfl (op_int (k := .u32) Try.underlying23 (by kernel_rfl)) (opF_cons rfl (op_string Try.underlying9 (by kernel_rfl)) (opF_one rfl (op_bool Try.underlying4 (by kernel_rfl))))))))) (fun x : S54 => (x.f0, x.f1, x.f2, x.f3, x.f4, x.f5)) (fun y => ⟨y.1, y.2.1, y.2.2.1, y.2.2.2.1, y.2.2.2.2.1, y.2.2.2.2.2⟩) (fun y => rfl)) ?_
  intro x h
  obtain ⟨h1, h2, h3, h4, h5, h6⟩ := h
  exact ⟨wf_u64 h1, wf_u64 h2, wf_u32 h3, wf_u32 h4⟩
open Opens2 in
theorem opAns : Opens2.Op Try.prog 31 kAns okAns := by
  refine op_mono (op_struct Try.underlying31 (by kernel_rfl) (opF_cons rfl (op_int (k := .i64) Try.underlying28 (by kernel_rfl)) (opF_cons rfl (op_slice Try.underlying29 (by kernel_rfl) opRec) (opF_one rfl (op_int (k := .i64) Try.underlying3 (by kernel_rfl)))))) ?_
  intro x h
  exact ⟨wf_i64 h.1, wf_i64 h.2.2, h.2.1.2⟩
theorem encT_bytes (o : OpT) : Bytes (encT o) ∧ (encT o).length ≤ 100 := by
  unfold encT
  split
  · rename_i h
    have hv := textC_16.1 h
    obtain ⟨k, key, x, y, v, p0, p1, p2, p3, n⟩ := o
    have hb := body_bytes k key x y v p0 p1 p2 p3 n (by show v.size < 256; have : v.size < 16 := hv; omega)
    have hl := body_length k key x y v p0 p1 p2 p3 n hv
    simp only [bodyT]
    rw [seal_byt hb (by omega)]
    exact ⟨bytes_append hb (SealF.q_byt _), by rw [List.length_append, hl, SealF.q_len]; decide⟩
  · exact ⟨fun x hx => (by cases hx), by simp⟩
theorem encA_bytes (a : AnsT) : Bytes (encA a) ∧ (encA a).length ≤ 10000 := by
  unfold encA
  split
  · rename_i h
    obtain ⟨h1, h2, h3, h4⟩ := ansCode_zero h
    have hb := ansBody_bytes a h4
    have hl := ansBody_length a h4
    rw [seal_byt hb (by omega)]
    exact ⟨bytes_append hb (SealF.q_byt _), by rw [List.length_append, hl, SealF.q_len]; omega⟩
  · exact ⟨fun x hx => (by cases hx), by simp⟩
theorem encT_inj {o p : OpT} (ho : okOp o) (hp : okOp p) (h1 : textC (valT o) 16 = 0) (h2 : textC (valT p) 16 = 0) : encT o = encT p ↔ o = p := by
  constructor
  · intro h
    have e1 := isOp_enc o ho h1
    rw [h, isOp_enc p hp h2] at e1
    exact (Prod.mk.inj e1).1.symm
  · rintro rfl; rfl
theorem lightB_le {a : AnsT} (h : lightB a = true) : a.recs.length ≤ 250 ∧ ∀ r ∈ a.recs, r.f4.size ≤ 100 := by
  unfold lightB at h
  rw [Bool.and_eq_true, List.all_eq_true] at h
  exact ⟨of_decide_eq_true h.1, fun r hr => of_decide_eq_true (h.2 r hr)⟩
end Go.Proofs.Ytnhkpolfkmpldaa.PAll
