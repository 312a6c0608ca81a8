/- Numbers as bytes: there and back (plain). -/
import Derived.Test.YtmmeioifbiakjaaPAllx16
import Derived.Test.YtmmeioifbiakjaaPAllx17
import Derived.Test.YtmmeioifbiakjaaPAllx18
import Derived.Test.YtmmeioifbiakjaaPAllx15
namespace Go.Proofs.Ytmmeioifbiakjaa.PAll
open Go.RowKit Go.Proofs.YtmmeioifbiakjaaW.PrintWords Go.Proofs.YtmmeioifbiakjaaW.PrintLast Go.Proofs.YtmmeioifbiakjaaW.PrintMore
set_option linter.unusedVariables false
set_option linter.unusedSimpArgs false

/-- A number's lowest k bytes, the highest first. -/
def putB (n : Int) : Nat → List Int
  | 0 => []
  | k + 1 => (n / 2 ^ (8 * k)) % 256 :: putB n k
theorem putB_length (n : Int) : ∀ k, (putB n k).length = k
  | 0 => rfl
  | k + 1 => by rw [putB, List.length_cons, putB_length n k]
theorem putB_bytes (n : Int) : ∀ k, Bytes (putB n k)
  | 0 => fun x h => by cases h
  | k + 1 => fun x h => by
    rw [putB] at h
    rcases List.mem_cons.1 h with rfl | h
    · omega
    · exact putB_bytes n k x h
theorem putB_snoc (n : Int) : ∀ k, putB n (k + 1) = putB (n / 256) k ++ [n % 256]
  | 0 => by simp [putB]
  | k + 1 => by
    rw [putB, putB_snoc n k, putB]
    have e : n / 2 ^ (8 * (k + 1)) = n / 256 / 2 ^ (8 * k) := by
      rw [Int.ediv_ediv_of_nonneg (by decide)]
      congr 1
      rw [show 8 * (k + 1) = 8 + 8 * k by omega, Int.pow_add]
      rfl
    rw [e]
    rfl
theorem put_l0 (n : Int) : ∀ (k : Nat) (xs : List Int), k ≤ 8 → xs.length + k < 1000000000 → word_Put_uint64.l0 (k + 1) n xs ((k : Int) - 1) = some (xs ++ putB n k)
  | 0, xs, hk, hl => by
    rw [word_Put_uint64.l0, if_neg (by decide)]
    simp [putB]
  | k + 1, xs, hk, hl => by
    rw [word_Put_uint64.l0]
    have e0 : ((k + 1 : Nat) : Int) - 1 = (k : Int) := by omega
    have e1 : wrap64 (8 * (k : Int)) = 8 * k := by unfold wrap64; omega
    have e2 : wrap64 ((k : Int) - 1) = (k : Int) - 1 := by unfold wrap64; omega
    have e3 : shr .u64 n (8 * (k : Int)) = n / 2 ^ (8 * k) := by
      unfold shr
      have : (8 * (k : Int)).toNat = 8 * k := by omega
      rw [this, Nat.min_eq_left (by simp [IntKind.bits]; omega)]
    rw [e0, if_pos (by omega), if_neg (by omega), e1, if_pos (by omega), if_pos (by omega), e2, e3]
    have := put_l0 n k (xs ++ [n / 2 ^ (8 * k) % 256]) (by omega) (by rw [List.length_append, List.length_singleton]; omega)
    rw [this, putB]
    simp
theorem put_f (n : Int) (k : Nat) (xs : List Int) (h1 : 1 ≤ k) (h8 : k ≤ 8) (hl : xs.length < 900000000) : word_Put_uint64.f 9 xs n (k : Int) = some (xs ++ putB n k) := by
  have e1 : wrap64 ((k : Int) - 1) = (k : Int) - 1 := by unfold wrap64; omega
  have h := put_l0 n k xs h8 (by omega)
  have hm : ∀ j r, word_Put_uint64.l0 (k + 1) n xs ((k : Int) - 1) = some r → word_Put_uint64.l0 (k + 1 + j) n xs ((k : Int) - 1) = some r := by
    intro j
    induction j with
    | zero => exact fun r h => h
    | succ j ih => exact fun r h => word_Put_uint64.mono_l _ _ _ _ _ (ih r h)
  unfold word_Put_uint64.f
  simp only [Option.bind_some, List.length_nil, List.nil_append]
  rw [if_pos (by omega), e1]
  have := hm (9 - (k + 1)) _ h
  rwa [show k + 1 + (9 - (k + 1)) = 9 by omega] at this
theorem refput_f : ∀ (k : Nat) (n : Int), 0 ≤ n → n < 18446744073709551616 → k ≤ 8 → counterpaneref01_Put.f (k + 1) n (k : Int) = some (putB n k)
  | 0, n, h0, h1, hk => by rw [counterpaneref01_Put.f, if_pos (by decide)]; rfl
  | k + 1, n, h0, h1, hk => by
    rw [counterpaneref01_Put.f, if_neg (by omega)]
    have e1 : wrap64 (((k + 1 : Nat) : Int) - 1) = (k : Int) := by unfold wrap64; omega
    have e2 : Int.tdiv n 256 = n / 256 := Int.tdiv_eq_ediv_of_nonneg h0
    have e3 : Int.tmod n 256 = n % 256 := Int.tmod_eq_emod_of_nonneg h0
    have e4 : IntKind.u64.wrap (n / 256) = n / 256 := by
      simp [IntKind.wrap, IntKind.bits, IntKind.signed]
      omega
    have hl := putB_length (n / 256) k
    rw [e1, e2, e3, e4, refput_f k (n / 256) (by omega) (by omega) (by omega)]
    simp only [Option.bind_some]
    rw [if_pos (by omega), putB_snoc]
    congr 3
    omega
theorem or_byte (n c : Int) (h0 : 0 ≤ c) (h1 : c < 256) : Go.bits .or .u64 (IntKind.u64.wrap (n * 256)) (IntKind.u64.wrap c) = IntKind.u64.wrap (IntKind.u64.wrap (n * 256) + IntKind.u64.wrap c) := by
  have w : ∀ m : Int, IntKind.u64.wrap m = m % 18446744073709551616 := fun m => by simp [IntKind.wrap, IntKind.bits, IntKind.signed]
  have hj := bits_join .u64 64 (by decide) (fun m a b => by rw [w]; omega) 8 (IntKind.u64.wrap (n * 256)) (IntKind.u64.wrap c) (by rw [w]; omega) (by rw [w]; omega) (by rw [w]; omega) (by rw [w]; omega) (by rw [w]; omega) (by rw [w]; omega)
  rw [hj]
  simp only [w]
  omega
theorem refget_l0 (xs : List Int) (hx : Bytes xs) (hl : xs.length < 1000000000) : ∀ (m i : Nat) (n : Int), i + m = xs.length → counterpaneref01_Get.l0 (m + 1) xs n (i : Int) = some (getL n (xs.drop i))
  | 0, i, n, h => by
    rw [counterpaneref01_Get.l0, if_neg (by omega), List.drop_of_length_le (by omega)]
    rfl
  | m + 1, i, n, h => by
    have e1 : wrap64 ((i : Int) + 1) = ((i + 1 : Nat) : Int) := by unfold wrap64; omega
    have hb := hx _ (List.getElem_mem (by omega : i < xs.length))
    rw [counterpaneref01_Get.l0, if_pos (by omega), if_pos (by omega), e1, rd_get (by omega : i < xs.length), refget_l0 xs hx hl m (i + 1) _ (by omega), ← or_byte _ _ hb.1 hb.2]
    conv => rhs; rw [List.drop_eq_getElem_cons (by omega : i < xs.length)]
    rfl
theorem refget_f (xs : List Int) (hx : Bytes xs) (hl : xs.length ≤ 8) : counterpaneref01_Get.f (xs.length + 1) xs = some (getN xs) := by
  unfold counterpaneref01_Get.f getN
  rw [show (0 : Int) = ((0 : Nat) : Int) from rfl, refget_l0 xs hx (by omega) xs.length 0 _ (by omega), show xs.length - 8 = 0 by omega]

/-- A field: a truth, a size, a number, a text. -/
abbrev Fld := Bool × Int × Int × ByteArray
def kFld : Kd Fld := Kd.pair Kd.bool (Kd.pair (Kd.int .u8) (Kd.pair (Kd.int .u64) Kd.string))
def Fld.k (f : Fld) : Nat := 1 + (f.2.1 % 8).toNat
def okFld (f : Fld) : Prop := (0 ≤ f.2.1 ∧ f.2.1 < 256) ∧ (0 ≤ f.2.2.1 ∧ f.2.2.1 < 18446744073709551616) ∧ f.2.2.2.size ≤ 9223372036854775807
def Fld.code (f : Fld) : Int := if f.1 then textC f.2.2.2 f.k else 0
def Fld.enc (f : Fld) : List Int := if f.1 then fieldOf f.2.2.2 f.k else putB f.2.2.1 f.k
def encs : List Fld → List Int
  | [] => []
  | f :: fs => f.enc ++ encs fs
theorem encs_snoc (f : Fld) : ∀ fs, encs (fs ++ [f]) = encs fs ++ f.enc
  | [] => by simp [encs]
  | g :: fs => by rw [List.cons_append, encs, encs, encs_snoc f fs, List.append_assoc]
theorem Fld.k_le (f : Fld) : 1 ≤ f.k ∧ f.k ≤ 8 := by unfold Fld.k; omega
theorem bytesOf_bytes (s : ByteArray) : Bytes (bytesOf s) := by
  intro x hx
  unfold bytesOf at hx
  obtain ⟨b, _, rfl⟩ := List.mem_map.1 hx
  have := b.toNat_lt
  omega
theorem fieldOf_length (s : ByteArray) (n : Nat) (h : s.size < n) : (fieldOf s n).length = n := by
  simp only [fieldOf, List.length_append, List.length_singleton, bytesOf_length, List.length_replicate]
  omega
theorem enc_length (f : Fld) (h : f.code = 0) : f.enc.length = f.k := by
  unfold Fld.enc Fld.code at *
  have := f.k_le
  split
  · rename_i ht
    rw [if_pos ht] at h
    refine fieldOf_length _ _ ?_
    unfold textC at h
    split at h
    · cases h
    · split at h
      · cases h
      · omega
  · exact putB_length _ _
theorem enc_bytes (f : Fld) (h : f.code = 0) : Bytes f.enc := by
  unfold Fld.enc Fld.code at *
  have := f.k_le
  split
  · rename_i ht
    rw [if_pos ht] at h
    have hs : (f.2.2.2.size : Int) < f.k := by
      unfold textC at h
      split at h
      · cases h
      · split at h
        · cases h
        · omega
    intro x hx
    simp only [fieldOf, List.mem_append, List.mem_singleton, List.mem_replicate] at hx
    rcases hx with (rfl | hx) | ⟨_, rfl⟩
    · omega
    · exact bytesOf_bytes _ x hx
    · omega
  · exact putB_bytes _ _
theorem encs_bytes : ∀ fs : List Fld, (∀ f ∈ fs, f.code = 0) → Bytes (encs fs)
  | [], _ => fun x h => by cases h
  | f :: fs, h => fun x hx => by
    rw [encs] at hx
    rcases List.mem_append.1 hx with hx | hx
    · exact enc_bytes f (h f (by simp)) x hx
    · exact encs_bytes fs (fun g hg => h g (by simp [hg])) x hx
theorem encs_length : ∀ fs : List Fld, (∀ f ∈ fs, f.code = 0) → (encs fs).length ≤ 8 * fs.length
  | [], _ => by simp [encs]
  | f :: fs, h => by
    have h1 := enc_length f (h f (by simp))
    have h2 := encs_length fs (fun g hg => h g (by simp [hg]))
    have := f.k_le
    rw [encs, List.length_append, List.length_cons]
    omega
theorem field_fieldOf (s : ByteArray) (n : Nat) (h : s.size < n) (hn : n ≤ 8) : fieldF (fieldOf s n) = some (bytesOf s) := by
  have hl := fieldOf_length s n h
  have h0 : rd (fieldOf s n) 0 = s.size := by simp [fieldOf, rd]
  unfold fieldF
  rw [hl, h0, if_neg (by omega), Int.toNat_natCast]
  have e : fieldOf s n = ([(s.size : Int)] ++ bytesOf s) ++ List.replicate (n - 1 - s.size) 0 := by simp [fieldOf]
  have el : ([(s.size : Int)] ++ bytesOf s).length = 1 + s.size := by simp [bytesOf_length]; omega
  rw [e, List.drop_left' el, List.take_left' el]
  have hn : noughts (List.replicate (n - 1 - s.size) 0) = true := by simp [noughts]
  rw [if_pos hn]
  rfl
theorem take_enc (a b : List Int) (k : Nat) (h : a.length = k) : takeF (a ++ b) false (k : Int) = (a, b, false) := by
  unfold takeF
  rw [if_neg (by simp [h]; omega), Int.toNat_natCast, List.take_left' h, List.drop_left' h]
theorem text_enc (f : Fld) (b : List Int) (ht : f.1 = true) (h : f.code = 0) : textF (f.enc ++ b) false (f.k : Int) = (bytesOf f.2.2.2, b, false) := by
  have hl := enc_length f h
  unfold textF
  rw [take_enc _ _ _ hl]
  refine textG_some ?_
  unfold Fld.enc Fld.code at *
  rw [if_pos ht] at *
  have := f.k_le
  refine field_fieldOf _ _ ?_ this.2
  unfold textC at h
  split at h
  · cases h
  · split at h
    · cases h
    · omega
theorem strOfNums_bytesOf (s : ByteArray) : strOfNums (bytesOf s) = s := by
  have : strOfNums (bytesOf s) = ⟨(s.data.toList).toArray⟩ := by
    unfold strOfNums bytesOf
    congr 2
    rw [List.map_map]
    refine (List.map_congr_left (fun b _ => ?_)).trans (List.map_id _)
    show UInt8.ofNat (Int.toNat (b.toNat : Int)) = b
    simp
  rw [this]
end Go.Proofs.Ytmmeioifbiakjaa.PAll
