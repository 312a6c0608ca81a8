/- WordBack: numbers and texts, put one behind the other, are read as they were. -/
import Derived.Test.YtmmeioifbiakjaaBackM
namespace Go.Proofs.Ytmmeioifbiakjaa.PAll
open Go.RowKit Go.Proofs.YtmmeioifbiakjaaW.PrintWords Go.Proofs.YtmmeioifbiakjaaW.PrintLast Go.Proofs.YtmmeioifbiakjaaW.PrintMore
set_option linter.unusedVariables false
set_option linter.unusedSimpArgs false

theorem fld_open {w : World} {x : Fld} {cs : List Value} (h : kFld.K w x cs) : cs = [.bool x.1, .int .u8 x.2.1, .int .u64 x.2.2.1, .string x.2.2.2] := by
  obtain ⟨_, _, rfl, rfl, ⟨_, _, rfl, rfl, ⟨_, _, rfl, rfl, rfl⟩⟩⟩ := h
  exact rfl
theorem fld_at {w : World} {A : Option Addr} {l : List Fld} (h : Kd.C kFld w A l.length l) (i : Nat) (hi : i < l.length) : ∃ ad, A = some ad ∧ w.cell? (ad.add (i * 4)) = some (.bool l[i].1) ∧
    w.cell? ⟨(ad.add (i * 4)).block, (ad.add (i * 4)).off + 1, none⟩ = some (.int .u8 l[i].2.1) ∧ w.cell? ⟨(ad.add (i * 4)).block, (ad.add (i * 4)).off + 2, none⟩ = some (.int .u64 l[i].2.2.1) ∧
    w.cell? ⟨(ad.add (i * 4)).block, (ad.add (i * 4)).off + 3, none⟩ = some (.string l[i].2.2.2) := by
  obtain ⟨ad, e, hx⟩ := h.2.2 (by omega)
  obtain ⟨c, hc, hK, hcell⟩ := hx i _ (List.getElem?_eq_getElem hi)
  obtain rfl := fld_open hK
  have hz : kFld.sz = 4 := rfl
  rw [hz] at hcell
  exact ⟨ad, e, hcell 0 _ rfl, by rw [← add_field _ _ 1 (by omega)]; exact hcell 1 _ rfl, by rw [← add_field _ _ 2 (by omega)]; exact hcell 2 _ rfl, by rw [← add_field _ _ 3 (by omega)]; exact hcell 3 _ rfl⟩
theorem put_cc (A0 : Option Addr) (c0 : Nat) (l0 : List Int) (n : Int) (k : Nat) (w : World) (hr0 : Kd.C (Kd.int .u8) w A0 l0.length l0) (hc0 : l0.length ≤ c0) (h1 : 1 ≤ k) (h8 : k ≤ 8) (hl : l0.length < 900000000) :
    Calls Try.prog 14 #[.slice A0 l0.length c0, .int .u64 n, .int .i64 (k : Int)] w fun e w' => ∃ A c, e = .returned (.slice A (l0 ++ putB n k).length c) ∧ (l0 ++ putB n k).length ≤ c ∧ Kd.C (Kd.int .u8) w' A (l0 ++ putB n k).length (l0 ++ putB n k) ∧ Below w.heap.size w w' :=
  (word_Put_uint64.calls 9 A0 c0 l0 n k _ w hr0 hc0 (put_f n k l0 h1 h8 hl)).mono fun e w' ⟨v, h1, hr, h2⟩ => by
    obtain ⟨A, c, rfl⟩ := Kd.R_slice hr
    exact ⟨A, c, h1, (Kd.R_reads' hr).2.1, (Kd.R_reads' hr).2.2, h2⟩

theorem word_text_f2 (k : Nat) (l0 : List Int) (s : ByteArray) (n : Int) (hl : l0.length < 1000000000) (hn : 1 ≤ n ∧ n ≤ 8) :
    word_Text.f (k + 1) l0 s n = some (if textC s n = 0 then l0 ++ fieldOf s n else [], textC s n) := by
  by_cases hs : s.size < 1000000000
  · exact word_text_f k l0 s n hl hs (by omega)
  · have h12 : ¬ (n < 1 ∨ n > 256) := by omega
    have h3 : (s.size : Int) ≥ n := by omega
    unfold word_Text.f
    rw [if_neg (by omega), word_Text.j0, if_neg (by simp; omega), if_pos h3, textC_9 h12 h3]
    rfl
theorem text_c2 (A0 : Option Addr) (c0 : Nat) (l0 : List Int) (s : ByteArray) (n : Int) (w : World) (hr0 : Kd.C (Kd.int .u8) w A0 l0.length l0) (hc0 : l0.length ≤ c0) (hl : l0.length < 1000000000) (hn : 1 ≤ n ∧ n ≤ 8) (h : textC s n = 0) :
    Calls Try.prog 7 #[.slice A0 l0.length c0, .string s, .int .i64 n] w fun e w' => ∃ A c, e = .returned (.tuple #[.slice A (l0 ++ fieldOf s n).length c, .int .i64 0]) ∧ (l0 ++ fieldOf s n).length ≤ c ∧ Kd.C (Kd.int .u8) w' A (l0 ++ fieldOf s n).length (l0 ++ fieldOf s n) ∧ Below w.heap.size w w' := by
  have hf := word_text_f2 0 l0 s n hl hn
  rw [h, if_pos rfl] at hf
  exact (word_Text.calls 1 A0 c0 l0 s n _ _ w hr0 hc0 hf).mono fun e w' ⟨v, h1, hr, h2⟩ => by
    obtain ⟨A, c, rfl⟩ := Kd.R_slice hr
    exact ⟨A, c, h1, (Kd.R_reads' hr).2.1, (Kd.R_reads' hr).2.2, h2⟩
theorem text_c3 (A0 : Option Addr) (c0 : Nat) (l0 : List Int) (s : ByteArray) (n : Int) (w : World) (hr0 : Kd.C (Kd.int .u8) w A0 l0.length l0) (hc0 : l0.length ≤ c0) (hl : l0.length < 1000000000) (hn : 1 ≤ n ∧ n ≤ 8) (h : ¬ textC s n = 0) :
    Calls Try.prog 7 #[.slice A0 l0.length c0, .string s, .int .i64 n] w fun e w' => ∃ v z, e = .returned (.tuple #[v, .int .i64 z]) ∧ z ≠ 0 ∧ Below w.heap.size w w' :=
  (word_Text.calls 1 A0 c0 l0 s n _ _ w hr0 hc0 (word_text_f2 0 l0 s n hl hn)).mono fun e w' ⟨v, h1, hr, h2⟩ => ⟨v, _, h1, h, h2⟩

def counterpanelaw01_WordBack.T21 : Bool × List (List Nat × List Nat) := (true, [([], []), ([], []), ([0, 1], [0, 1]), ([2], [2]), ([3], [3]), ([4], [4]), ([5], [5]), ([5], [5]), ([6, 7, 5, 5], [5, 6, 7]), ([5], [5]), ([5], [5]), ([9, 10, 5], [5, 9, 10]), ([11, 5], [5, 11]), ([12, 5], [5, 12]), ([8, 13, 5], [5, 8, 13]), ([5, 14], [5, 14]), ([15, 8], [15]), ([16], [16]), ([16], [16]), ([17, 18, 16], [16, 17, 18]), ([19, 16], [16, 19]), ([20, 16], [16, 20]), ([21, 16], [16, 21]), ([22, 16, 16], [16, 22]), ([23], [23]), ([23], [23]), ([24, 25, 23, 23], [23, 24, 25]), ([23], [23]), ([23], [23]), ([27, 28, 23], [23, 27, 28]), ([29, 23], [23, 29]), ([30, 23], [23, 30]), ([23], [23]), ([31, 32, 26, 23], [23, 31, 32]), ([33, 33, 23], [23, 33]), ([26, 34, 23], [23, 26, 34]), ([23, 35, 16], [16, 23, 35]), ([16, 36], [16, 36])])
def counterpanelaw01_WordBack.B21 : List Nat := [0, 0, 3, 7, 15, 31, 63, 63, 255, 63, 63, 1599, 3647, 7743, 16383, 32767, 65535, 131071, 131071, 524287, 1048575, 2097151, 4194303, 8388607, 16777215, 16777215, 67108863, 16777215, 16777215, 419430399, 956301311, 2030043135, 16777215, 8589934591, 17179869183, 34359738367, 68719476735, 137438953471]
theorem counterpanelaw01_WordBack.tab21 : rtab .any (opsOf Try.f4 21) = counterpanelaw01_WordBack.T21 := by kernel_rfl
theorem counterpanelaw01_WordBack.bits21 : waitsOk counterpanelaw01_WordBack.T21.2 counterpanelaw01_WordBack.B21 = true := by kernel_rfl
theorem read_n (A0 : Option Addr) (c0 n : Nat) (l0 : List Int) (w : World) (hn : n = l0.length) (hr0 : Kd.C (Kd.int .u8) w A0 l0.length l0) (hc0 : l0.length ≤ c0) (hl : l0.length < 140737488355328) :
    Calls Try.prog 9 #[.slice A0 n c0] w fun e w' => ∃ g, e = .returned (.pointer (some ⟨g, 0, none⟩)) ∧ w.heap.size ≤ g ∧ Rd w' g l0 false ∧ Below w.heap.size w w' := by
  subst hn
  exact read_c A0 c0 l0 w hr0 hc0 hl
theorem rp1 {w0 w w' : World} {g : Nat} {ys : List Int} {b : Bool} (h : RdPost w0 w g ys b w') : Rd w' g ys b := h.1
theorem rp2 {w0 w w' : World} {g : Nat} {ys : List Int} {b : Bool} (h : RdPost w0 w g ys b w') : Below w0.heap.size w0 w' := h.2.1
theorem refput_c (n : Int) (k : Nat) (w : World) (h0 : 0 ≤ n) (h1 : n < 18446744073709551616) (hk : k ≤ 8) :
    Calls Try.prog 17 #[.int .u64 n, .int .i64 (k : Int)] w fun e w' => ∃ A c, e = .returned (.slice A (putB n k).length c) ∧ (putB n k).length ≤ c ∧ Kd.C (Kd.int .u8) w' A (putB n k).length (putB n k) ∧ Below w.heap.size w w' :=
  (counterpaneref01_Put.calls (k + 1) n k _ w (refput_f k n h0 h1 hk)).mono fun e w' ⟨v, h1, hr, h2⟩ => by
    obtain ⟨A, c, rfl⟩ := Kd.R_slice hr
    exact ⟨A, c, h1, (Kd.R_reads' hr).2.1, (Kd.R_reads' hr).2.2, h2⟩
theorem refget_c (A : Option Addr) (c : Nat) (n : Int) (k : Nat) (w : World) (hC : Kd.C (Kd.int .u8) w A (putB n k).length (putB n k)) (hc : (putB n k).length ≤ c) (hk : k ≤ 8) :
    Calls Try.prog 16 #[.slice A (putB n k).length c] w fun e w' => e = .returned (.int .u64 (getN (putB n k))) ∧ Below w.heap.size w w' :=
  (counterpaneref01_Get.calls _ A c _ _ w hC hc (refget_f _ (putB_bytes n k) (by rw [putB_length]; exact hk))).mono fun e w' ⟨h1, h2⟩ => ⟨h1, h2.below⟩
set_option maxHeartbeats 4000000 in
set_option maxRecDepth 100000 in
theorem counterpanelaw01_WordBack.walk0 (w : World) (A0 : Option Addr) (c0 : Nat) (l : List Fld) (hr0 : Kd.C kFld w A0 l.length l) (hc0 : l.length ≤ c0) (hm0 : l.length ≤ maxLen) (hok : ∀ x ∈ l, okFld x) :
    Calls Try.prog 4 #[.slice A0 l.length c0] w fun e w' => e = .returned (.bool true) ∧ Below w.heap.size w w' := by
  have HR0 := Aside0.mk hr0
  have HOK := Aside0.mk hok
  clear hr0 hok hm0
  by_cases q1 : (30 : Int) < (l.length : Int)
  · go_enter Try.func4, Try.ntmps4
    go_wp2_with (go_at_call 6; refine (counterpanelaw01_works.calls0 _).mono ?_; rintro e w1 ⟨rfl, hb⟩)
    go_ret
    exact ⟨rfl, hb⟩
  have hl30 : l.length ≤ 30 := by omega
  go_enter Try.func4, Try.ntmps4
  go_wp2
  go_loopg [3, 4] (l.length) (fun kq v3 v4 w' => ∃ (A : Option Addr) (c i : Nat), v3 = .slice A (encs (l.take i)).length c ∧ v4 = .int .i64 (i : Int) ∧ Aside0 (kq + i = l.length) ∧ Aside0 (∀ f ∈ l.take i, f.code = 0) ∧ Aside0 ((encs (l.take i)).length ≤ c ∧ Kd.C (Kd.int .u8) w' A (encs (l.take i)).length (encs (l.take i))) ∧ Aside0 (Below w.heap.size w w'))
  case atStart => exact ⟨none, 0, 0, rfl, rfl, ⟨by omega⟩, ⟨fun f h => by cases h⟩, ⟨Nat.le_refl _, Kd.C_nil _ _⟩, ⟨by repeat (first | (with_reducible first | exact Below.refl _ _ | apply below_alloc | apply pw_below_drewN | apply below_drew1) | exact Below.refl _ _)⟩⟩
  case round =>
    obtain ⟨A, c, i, rfl, rfl, HK1, HZ, HE, HB⟩ := hrel
    by_cases hi : i < l.length
    · obtain ⟨k1, rfl⟩ : ∃ k1, gk = k1 + 1 := ⟨gk - 1, by have := HK1.out; omega⟩
      have p1 := eq_true (show (i : Int) < (l.length : Int) by omega)
      have p1' := eq_true hi
      have p2 := eq_true (show 0 ≤ (i : Int) by omega)
      obtain ⟨ad, e, hx0, hx1, hx2, hx3⟩ := fld_at HR0.out i hi
      cases e
      replace hx0 := pw_cell_below HB.out hx0
      replace hx1 := pw_cell_below HB.out hx1
      replace hx2 := pw_cell_below HB.out hx2
      replace hx3 := pw_cell_below HB.out hx3
      have hf := HOK.out _ (List.getElem_mem hi)
      have hti : l.take (i + 1) = l.take i ++ [l[i]] := by rw [List.take_add_one, List.getElem?_eq_getElem hi]; rfl
      have HTI := Aside0.mk hti
      clear hti
      generalize hfl : l[i] = f at hx0 hx1 hx2 hx3 hf HTI
      obtain ⟨ft, fz, fn, fs⟩ := f
      have HF := Aside0.mk hf
      clear hf hfl
      simp only at hx0 hx1 hx2 hx3
      have ek : wrap64 (1 + (wrap64 fz).tmod 8) = ((Fld.k (ft, fz, fn, fs) : Nat) : Int) := by
        have h1 := HF.out.1
        simp only at h1
        have e1 : wrap64 fz = fz := by unfold wrap64; omega
        have e2 : fz.tmod 8 = fz % 8 := Int.tmod_eq_emod_of_nonneg h1.1
        unfold Fld.k
        simp only
        rw [e1, e2]
        clear e1 e2
        unfold wrap64
        omega
      replace ek := Aside0.mk ek
      have hk18 := Aside0.mk (Fld.k_le (ft, fz, fn, fs))
      have hlen := encs_length (l.take i) HZ.out
      have hlen2 : (encs (l.take i)).length < 1000 := by rw [List.length_take] at hlen; omega
      replace hlen := Aside0.mk hlen2
      clear hlen2
      cases ft with
      | false =>
        have hcode : Fld.code (false, fz, fn, fs) = 0 := rfl
        have HZ2 : ∀ f ∈ l.take (i + 1), f.code = 0 := by
          rw [HTI.out]
          intro f hf
          rcases List.mem_append.1 hf with hf | hf
          · exact HZ.out f hf
          · rw [List.mem_singleton.1 hf]; exact hcode
        have henc : encs (l.take (i + 1)) = encs (l.take i) ++ putB fn (Fld.k (false, fz, fn, fs)) := by rw [HTI.out, encs_snoc]; rfl
        replace HZ2 := Aside0.mk HZ2
        replace henc := Aside0.mk henc
        go_wp2_with fail
        rw [ek.out]
        refine (put_cc A c _ fn _ _ HE.out.2 HE.out.1 hk18.out.1 hk18.out.2 (by have := hlen.out; omega)).mono ?_
        rintro e w1 ⟨A1, c1, rfl, hc1, hC1, hb1⟩
        rw [← henc.out] at hc1 hC1 ⊢
        replace hC1 := Aside0.mk (And.intro hc1 hC1)
        replace hb1 := Aside0.mk (below_step HB.out hb1)
        have hlt : i < 30 := by omega
        clear p1' hc1
        go_wp2_with fail
        go_roundg k1
        case measure => exact Nat.lt_succ_self _
        case rel => exact ⟨A1, c1, i + 1, by first | rfl | simp, by first | rfl | (congr 1; unfold wrap64; omega), ⟨by have := HK1.out; omega⟩, HZ2, hC1, hb1⟩
      | true =>
        have hn8 : 1 ≤ ((Fld.k (true, fz, fn, fs) : Nat) : Int) ∧ ((Fld.k (true, fz, fn, fs) : Nat) : Int) ≤ 8 := by have := hk18.out; omega
        replace hn8 := Aside0.mk hn8
        by_cases hcode : Fld.code (true, fz, fn, fs) = 0
        · have HZ2 : ∀ f ∈ l.take (i + 1), f.code = 0 := by
            rw [HTI.out]
            intro f hf
            rcases List.mem_append.1 hf with hf | hf
            · exact HZ.out f hf
            · rw [List.mem_singleton.1 hf]; exact hcode
          have henc : encs (l.take (i + 1)) = encs (l.take i) ++ fieldOf fs (Fld.k (true, fz, fn, fs)) := by rw [HTI.out, encs_snoc]; rfl
          replace HZ2 := Aside0.mk HZ2
          replace henc := Aside0.mk henc
          replace hcode : Aside0 (textC fs (Fld.k (true, fz, fn, fs)) = 0) := ⟨hcode⟩
          go_wp2_with fail
          rw [ek.out]
          refine (text_c2 A c _ fs _ _ HE.out.2 HE.out.1 (by have := hlen.out; omega) hn8.out hcode.out).mono ?_
          rintro e w1 ⟨A1, c1, rfl, hc1, hC1, hb1⟩
          rw [← henc.out] at hc1 hC1 ⊢
          replace hC1 := Aside0.mk (And.intro hc1 hC1)
          replace hb1 := Aside0.mk (below_step HB.out hb1)
          have hlt : i < 30 := by omega
          clear p1' hc1
          go_wp2_with fail
          go_roundg k1
          case measure => exact Nat.lt_succ_self _
          case rel => exact ⟨A1, c1, i + 1, by first | rfl | simp, by first | rfl | (congr 1; unfold wrap64; omega), ⟨by have := HK1.out; omega⟩, HZ2, hC1, hb1⟩
        · replace hcode : Aside0 (¬ textC fs (Fld.k (true, fz, fn, fs)) = 0) := ⟨hcode⟩
          go_wp2_with fail
          rw [ek.out]
          refine (text_c3 A c _ fs _ _ HE.out.2 HE.out.1 (by have := hlen.out; omega) hn8.out hcode.out).mono ?_
          rintro e w1 ⟨v1, z, rfl, hz, hb1⟩
          have hz1 := beq_eq_false_iff_ne.mpr hz
          have hz2 := bne_iff_ne.mpr hz
          replace hb1 := Aside0.mk (below_step HB.out hb1)
          go_wp2_with (go_at_call 6; refine (counterpanelaw01_works.calls0 _).mono ?_; rintro e w4 ⟨rfl, hb⟩)
          go_ret
          exact ⟨rfl, below_step hb1.out hb⟩
    · have p1 := eq_false (show ¬ (i : Int) < (l.length : Int) by omega)
      have p1' := eq_false hi
      have hti : l.take i = l := List.take_of_length_le (by omega)
      rw [hti] at HZ HE ⊢
      have hel := encs_length l HZ.out
      have hby := Aside0.mk (encs_bytes l HZ.out)
      have hlen2 : (encs l).length < 1000 := by omega
      replace hel := Aside0.mk hlen2
      clear hlen2
      go_wp2_with fail
      refine (read_c A c (encs l) _ HE.out.2 HE.out.1 (by have := hel.out; omega)).mono ?_
      rintro e w1 ⟨g, rfl, hg, hR1, hb1⟩
      replace hR1 := Aside0.mk hR1
      replace hg := Aside0.mk hg
      replace hb1 := Aside0.mk hb1
      go_wp2_with fail
      obtain ⟨wA, hwA⟩ : ∃ W : World, W = wr := ⟨_, rfl⟩
      rw [← hwA] at HB HE hb1 hg
      have HEc := HE
      replace hR1 : Aside0 (RdPost wA w1 g (encs l) false w1) := ⟨rdPost_refl hR1.out hb1.out (Below.refl _ _)⟩
      clear hti HE hwA
      go_loopg [9] (l.length) (fun kq v9 w' => ∃ (i : Nat), v9 = .int .i64 (i : Int) ∧ Aside0 (kq + i = l.length) ∧ Aside0 (RdPost wA w1 g (encs (l.drop i)) false w'))
      case atStart => exact ⟨0, rfl, ⟨by omega⟩, hR1⟩
      case round =>
        obtain ⟨i, rfl, HK2, HP⟩ := hrel
        clear hi p1 p1'
        by_cases hi : i < l.length
        · obtain ⟨k1, rfl⟩ : ∃ k1, gk = k1 + 1 := ⟨gk - 1, by have := HK2.out; omega⟩
          have p1 := eq_true (show (i : Int) < (l.length : Int) by omega)
          have p1' := eq_true hi
          have p2 := eq_true (show 0 ≤ (i : Int) by omega)
          obtain ⟨ad, e, hx0, hx1, hx2, hx3⟩ := fld_at HR0.out i hi
          cases e
          have HBW := Aside0.mk (below_step HB.out HP.out.2.1)
          have hf := HOK.out _ (List.getElem_mem hi)
          have hcode := HZ.out _ (List.getElem_mem hi)
          have hrest : encs (l.drop i) = Fld.enc l[i] ++ encs (l.drop (i + 1)) := by
            conv => lhs; rw [List.drop_eq_getElem_cons hi]
            rfl
          have hrb := encs_bytes (l.drop i) (fun f hf => HZ.out f (List.mem_of_mem_drop hf))
          have hrl := encs_length (l.drop i) (fun f hf => HZ.out f (List.mem_of_mem_drop hf))
          have hrl2 : (encs (l.drop i)).length < 1000 := by rw [List.length_drop] at hrl; omega
          replace hrl := Aside0.mk hrl2
          clear hrl2
          have hrl2 : Aside0 ((encs (l.drop i)).length ≤ 9223372036854775806) := ⟨by have := hrl.out; omega⟩
          replace hrb := Aside0.mk hrb
          generalize hfl : l[i] = f at hx0 hx1 hx2 hx3 hf hcode hrest
          obtain ⟨ft, fz, fn, fs⟩ := f
          have HF := Aside0.mk hf
          have hfn : Aside0 (0 ≤ fn ∧ fn < 18446744073709551616) := ⟨hf.2.1⟩
          replace hcode := Aside0.mk hcode
          replace hrest := Aside0.mk hrest
          clear hf hfl
          simp only at hx0 hx1 hx2 hx3
          have HX0 := Aside0.mk hx0
          have HX2 := Aside0.mk hx2
          have HX3 := Aside0.mk hx3
          replace hx0 := pw_cell_below HBW.out hx0
          replace hx1 := pw_cell_below HBW.out hx1
          replace hx2 := pw_cell_below HBW.out hx2
          replace hx3 := pw_cell_below HBW.out hx3
          have ek : wrap64 (1 + (wrap64 fz).tmod 8) = ((Fld.k (ft, fz, fn, fs) : Nat) : Int) := by
            have h1 := HF.out.1
            simp only at h1
            have e1 : wrap64 fz = fz := by unfold wrap64; omega
            have e2 : fz.tmod 8 = fz % 8 := Int.tmod_eq_emod_of_nonneg h1.1
            unfold Fld.k
            simp only
            rw [e1, e2]
            clear e1 e2
            unfold wrap64
            omega
          replace ek := Aside0.mk ek
          have hk18 := Aside0.mk (Fld.k_le (ft, fz, fn, fs))
          cases ft with
          | false =>
            go_wp2
            rw [ek.out]
            clear hx0 hx1 hx2 hx3
            replace HP := Aside0.mk (rdPost_trans HP.out (rdPost_refl HP.out.1 HP.out.2.1 (below_drew1 (Below.refl _ _))))
            replace HBW := Aside0.mk (below_drew1 HBW.out)
            refine start_ (n := 38) (S := fun w' => w'.cell? (ad.add (i * 4)) = some (.bool false) ∧ w'.cell? ⟨(ad.add (i * 4)).block, (ad.add (i * 4)).off + 2, none⟩ = some (.int .u64 fn) ∧ w'.cell? ⟨(ad.add (i * 4)).block, (ad.add (i * 4)).off + 3, none⟩ = some (.string fs)) (ds := []) #[false, false, false, false, false, false, false, false, false, false, false, false, false, false, false, false, false, false, false, false, false, false, false, false, false, false, false, false, false, false, false, false, false, false, false, false, false, false] (by kernel_rfl) rfl rfl ⟨pw_cell_below HBW.out HX0.out, pw_cell_below HBW.out HX2.out, pw_cell_below HBW.out HX3.out⟩ (fun hHeld => ?_)
            refine with_tabW counterpanelaw01_WordBack.tab21 counterpanelaw01_WordBack.bits21 (fun HT_ HW_ => ?_)
            generalize wr.drew = wd at HP HBW hHeld ⊢
            refine pure_ (i := 0) (N := some 77) (v := ?_) (a' := ?_) #[true, false, false, false, false, false, false, false, false, false, false, false, false, false, false, false, false, false, false, false, false, false, false, false, false, false, false, false, false, false, false, false, false, false, false, false, false, false] rfl rfl (any_of HT_.out (by kernel_rfl)) (fun _ _ _ h => h) (Or.inl ⟨by rfl, ?_⟩) ?_ ?_
            rotate_left
            · intro w'
              go_simp
              with_reducible rfl
            rotate_left
            · simp only [Act.put, List.setIfInBounds_toArray, List.set_cons_zero, List.set_cons_succ, i64_w, i32_w]
              rfl
            refine pure_ (i := 1) (N := some 78) (v := ?_) (a' := ?_) #[true, true, false, false, false, false, false, false, false, false, false, false, false, false, false, false, false, false, false, false, false, false, false, false, false, false, false, false, false, false, false, false, false, false, false, false, false, false] rfl rfl (any_of HT_.out (by kernel_rfl)) (fun _ _ _ h => h) (Or.inl ⟨by rfl, ?_⟩) ?_ ?_
            rotate_left
            · intro w'
              go_simp
              with_reducible rfl
            rotate_left
            · simp only [Act.put, List.setIfInBounds_toArray, List.set_cons_zero, List.set_cons_succ, i64_w, i32_w]
              rfl
            refine pure_ (i := 2) (N := some 79) (v := ?_) (a' := ?_) #[true, true, true, false, false, false, false, false, false, false, false, false, false, false, false, false, false, false, false, false, false, false, false, false, false, false, false, false, false, false, false, false, false, false, false, false, false, false] rfl rfl (any_of HT_.out (by kernel_rfl)) (fun _ _ _ h => h) (Or.inl ⟨by rfl, ?_⟩) ?_ ?_
            rotate_left
            · intro w'
              go_simp
              with_reducible rfl
            rotate_left
            · simp only [Act.put, List.setIfInBounds_toArray, List.set_cons_zero, List.set_cons_succ, i64_w, i32_w]
              rfl
            refine pure_ (i := 3) (N := some 80) (v := ?_) (a' := ?_) #[true, true, true, true, false, false, false, false, false, false, false, false, false, false, false, false, false, false, false, false, false, false, false, false, false, false, false, false, false, false, false, false, false, false, false, false, false, false] rfl rfl (any_of HT_.out (by kernel_rfl)) (fun _ _ _ h => h) (Or.inl ⟨by rfl, ?_⟩) ?_ ?_
            rotate_left
            · intro w'
              go_simp
              with_reducible rfl
            rotate_left
            · simp only [Act.put, List.setIfInBounds_toArray, List.set_cons_zero, List.set_cons_succ, i64_w, i32_w]
              rfl
            refine take_ (i := 4) (N := some 81) (v := ?_) (a' := ?_) #[true, true, true, true, true, false, false, false, false, false, false, false, false, false, false, false, false, false, false, false, false, false, false, false, false, false, false, false, false, false, false, false, false, false, false, false, false, false] rfl rfl (take_ofW HT_.out HW_.out (by kernel_rfl)) (fun _ _ _ h => h) (Or.inl ⟨by rfl, ?_⟩) hHeld ?_ ?_
            rotate_left
            · rintro w' ⟨s0, s1, s2⟩
              go_simp
              with_reducible rfl
            rotate_left
            · simp only [Act.put, List.setIfInBounds_toArray, List.set_cons_zero, List.set_cons_succ, i64_w, i32_w]
              rfl
            refine pure_ (i := 5) (N := some 82) (v := ?_) (a' := ?_) #[true, true, true, true, true, true, false, false, false, false, false, false, false, false, false, false, false, false, false, false, false, false, false, false, false, false, false, false, false, false, false, false, false, false, false, false, false, false] rfl rfl (any_of HT_.out (by kernel_rfl)) (fun _ _ _ h => h) (Or.inl ⟨by rfl, ?_⟩) ?_ ?_
            rotate_left
            · intro w'
              go_simp
              with_reducible rfl
            rotate_left
            · simp only [Act.put, List.setIfInBounds_toArray, List.set_cons_zero, List.set_cons_succ, i64_w, i32_w]
              rfl
            refine pure_ (i := 6) (N := some 83) (v := undef) (a' := ?_) #[true, true, true, true, true, true, true, false, false, false, false, false, false, false, false, false, false, false, false, false, false, false, false, false, false, false, false, false, false, false, false, false, false, false, false, false, false, false] rfl rfl (any_of HT_.out (by kernel_rfl)) (fun _ _ _ h => h) (Or.inr ⟨by rfl, rfl⟩) ?_ ?_
            rotate_left
            · simp only [Act.put, List.setIfInBounds_toArray, List.set_cons_zero, List.set_cons_succ, i64_w, i32_w]
              rfl
            refine pure_ (i := 7) (N := some 84) (v := undef) (a' := ?_) #[true, true, true, true, true, true, true, true, false, false, false, false, false, false, false, false, false, false, false, false, false, false, false, false, false, false, false, false, false, false, false, false, false, false, false, false, false, false] rfl rfl (any_of HT_.out (by kernel_rfl)) (fun _ _ _ h => h) (Or.inr ⟨by rfl, rfl⟩) ?_ ?_
            rotate_left
            · simp only [Act.put, List.setIfInBounds_toArray, List.set_cons_zero, List.set_cons_succ, i64_w, i32_w]
              rfl
            refine pure_ (i := 8) (N := some 85) (v := undef) (a' := ?_) #[true, true, true, true, true, true, true, true, true, false, false, false, false, false, false, false, false, false, false, false, false, false, false, false, false, false, false, false, false, false, false, false, false, false, false, false, false, false] rfl rfl (any_of HT_.out (by kernel_rfl)) (fun _ _ _ h => h) (Or.inr ⟨by rfl, rfl⟩) ?_ ?_
            rotate_left
            · simp only [Act.put, List.setIfInBounds_toArray, List.set_cons_zero, List.set_cons_succ, i64_w, i32_w]
              rfl
            refine pure_ (i := 9) (N := some 86) (v := undef) (a' := ?_) #[true, true, true, true, true, true, true, true, true, true, false, false, false, false, false, false, false, false, false, false, false, false, false, false, false, false, false, false, false, false, false, false, false, false, false, false, false, false] rfl rfl (any_of HT_.out (by kernel_rfl)) (fun _ _ _ h => h) (Or.inr ⟨by rfl, rfl⟩) ?_ ?_
            rotate_left
            · simp only [Act.put, List.setIfInBounds_toArray, List.set_cons_zero, List.set_cons_succ, i64_w, i32_w]
              rfl
            refine pure_ (i := 10) (N := some 87) (v := undef) (a' := ?_) #[true, true, true, true, true, true, true, true, true, true, true, false, false, false, false, false, false, false, false, false, false, false, false, false, false, false, false, false, false, false, false, false, false, false, false, false, false, false] rfl rfl (any_of HT_.out (by kernel_rfl)) (fun _ _ _ h => h) (Or.inr ⟨by rfl, rfl⟩) ?_ ?_
            rotate_left
            · simp only [Act.put, List.setIfInBounds_toArray, List.set_cons_zero, List.set_cons_succ, i64_w, i32_w]
              rfl
            refine pure_ (i := 11) (N := some 88) (v := undef) (a' := ?_) #[true, true, true, true, true, true, true, true, true, true, true, true, false, false, false, false, false, false, false, false, false, false, false, false, false, false, false, false, false, false, false, false, false, false, false, false, false, false] rfl rfl (any_of HT_.out (by kernel_rfl)) (fun _ _ _ h => h) (Or.inr ⟨by rfl, rfl⟩) ?_ ?_
            rotate_left
            · simp only [Act.put, List.setIfInBounds_toArray, List.set_cons_zero, List.set_cons_succ, i64_w, i32_w]
              rfl
            refine pure_ (i := 12) (N := some 89) (v := undef) (a' := ?_) #[true, true, true, true, true, true, true, true, true, true, true, true, true, false, false, false, false, false, false, false, false, false, false, false, false, false, false, false, false, false, false, false, false, false, false, false, false, false] rfl rfl (any_of HT_.out (by kernel_rfl)) (fun _ _ _ h => h) (Or.inr ⟨by rfl, rfl⟩) ?_ ?_
            rotate_left
            · simp only [Act.put, List.setIfInBounds_toArray, List.set_cons_zero, List.set_cons_succ, i64_w, i32_w]
              rfl
            refine pure_ (i := 13) (N := some 90) (v := undef) (a' := ?_) #[true, true, true, true, true, true, true, true, true, true, true, true, true, true, false, false, false, false, false, false, false, false, false, false, false, false, false, false, false, false, false, false, false, false, false, false, false, false] rfl rfl (any_of HT_.out (by kernel_rfl)) (fun _ _ _ h => h) (Or.inr ⟨by rfl, rfl⟩) ?_ ?_
            rotate_left
            · simp only [Act.put, List.setIfInBounds_toArray, List.set_cons_zero, List.set_cons_succ, i64_w, i32_w]
              rfl
            refine pure_ (i := 14) (N := some 91) (v := undef) (a' := ?_) #[true, true, true, true, true, true, true, true, true, true, true, true, true, true, true, false, false, false, false, false, false, false, false, false, false, false, false, false, false, false, false, false, false, false, false, false, false, false] rfl rfl (any_of HT_.out (by kernel_rfl)) (fun _ _ _ h => h) (Or.inr ⟨by rfl, rfl⟩) ?_ ?_
            rotate_left
            · simp only [Act.put, List.setIfInBounds_toArray, List.set_cons_zero, List.set_cons_succ, i64_w, i32_w]
              rfl
            refine pure_ (i := 15) (N := some 92) (v := ?_) (a' := ?_) #[true, true, true, true, true, true, true, true, true, true, true, true, true, true, true, true, false, false, false, false, false, false, false, false, false, false, false, false, false, false, false, false, false, false, false, false, false, false] rfl rfl (any_of HT_.out (by kernel_rfl)) (fun _ _ _ h => h) (Or.inl ⟨by rfl, ?_⟩) ?_ ?_
            rotate_left
            · intro w'
              go_simp
              with_reducible rfl
            rotate_left
            · simp only [Act.put, List.setIfInBounds_toArray, List.set_cons_zero, List.set_cons_succ, i64_w, i32_w]
              rfl
            refine pure_ (i := 16) (N := some 93) (v := ?_) (a' := ?_) #[true, true, true, true, true, true, true, true, true, true, true, true, true, true, true, true, true, false, false, false, false, false, false, false, false, false, false, false, false, false, false, false, false, false, false, false, false, false] rfl rfl (any_of HT_.out (by kernel_rfl)) (fun _ _ _ h => h) (Or.inl ⟨by rfl, ?_⟩) ?_ ?_
            rotate_left
            · intro w'
              go_simp
              with_reducible rfl
            rotate_left
            · simp only [Act.put, List.setIfInBounds_toArray, List.set_cons_zero, List.set_cons_succ, i64_w, i32_w]
              rfl
            refine pure_ (i := 17) (N := some 94) (v := ?_) (a' := ?_) #[true, true, true, true, true, true, true, true, true, true, true, true, true, true, true, true, true, true, false, false, false, false, false, false, false, false, false, false, false, false, false, false, false, false, false, false, false, false] rfl rfl (any_of HT_.out (by kernel_rfl)) (fun _ _ _ h => h) (Or.inl ⟨by rfl, ?_⟩) ?_ ?_
            rotate_left
            · intro w'
              go_simp
              with_reducible rfl
            rotate_left
            · simp only [Act.put, List.setIfInBounds_toArray, List.set_cons_zero, List.set_cons_succ, i64_w, i32_w]
              rfl
            refine pure_ (i := 18) (N := some 95) (v := ?_) (a' := ?_) #[true, true, true, true, true, true, true, true, true, true, true, true, true, true, true, true, true, true, true, false, false, false, false, false, false, false, false, false, false, false, false, false, false, false, false, false, false, false] rfl rfl (any_of HT_.out (by kernel_rfl)) (fun _ _ _ h => h) (Or.inl ⟨by rfl, ?_⟩) ?_ ?_
            rotate_left
            · intro w'
              go_simp
              with_reducible rfl
            rotate_left
            · simp only [Act.put, List.setIfInBounds_toArray, List.set_cons_zero, List.set_cons_succ, i64_w, i32_w]
              rfl
            refine pure_ (i := 19) (N := some 96) (v := ?_) (a' := ?_) #[true, true, true, true, true, true, true, true, true, true, true, true, true, true, true, true, true, true, true, true, false, false, false, false, false, false, false, false, false, false, false, false, false, false, false, false, false, false] rfl rfl (any_of HT_.out (by kernel_rfl)) (fun _ _ _ h => h) (Or.inl ⟨by rfl, ?_⟩) ?_ ?_
            rotate_left
            · intro w'
              go_simp
              with_reducible rfl
            rotate_left
            · simp only [Act.put, List.setIfInBounds_toArray, List.set_cons_zero, List.set_cons_succ, i64_w, i32_w]
              rfl
            refine pure_ (i := 20) (N := some 97) (v := ?_) (a' := ?_) #[true, true, true, true, true, true, true, true, true, true, true, true, true, true, true, true, true, true, true, true, true, false, false, false, false, false, false, false, false, false, false, false, false, false, false, false, false, false] rfl rfl (any_of HT_.out (by kernel_rfl)) (fun _ _ _ h => h) (Or.inl ⟨by rfl, ?_⟩) ?_ ?_
            rotate_left
            · intro w'
              go_simp
              with_reducible rfl
            rotate_left
            · simp only [Act.put, List.setIfInBounds_toArray, List.set_cons_zero, List.set_cons_succ, i64_w, i32_w]
              rfl
            refine take_ (i := 21) (N := some 98) (v := ?_) (a' := ?_) #[true, true, true, true, true, true, true, true, true, true, true, true, true, true, true, true, true, true, true, true, true, true, false, false, false, false, false, false, false, false, false, false, false, false, false, false, false, false] rfl rfl (take_ofW HT_.out HW_.out (by kernel_rfl)) (fun _ _ _ h => h) (Or.inl ⟨by rfl, ?_⟩) hHeld ?_ ?_
            rotate_left
            · rintro w' ⟨s0, s1, s2⟩
              go_simp
              with_reducible rfl
            rotate_left
            · simp only [Act.put, List.setIfInBounds_toArray, List.set_cons_zero, List.set_cons_succ, i64_w, i32_w]
              rfl
            refine pure_ (i := 22) (N := some 99) (v := ?_) (a' := ?_) #[true, true, true, true, true, true, true, true, true, true, true, true, true, true, true, true, true, true, true, true, true, true, true, false, false, false, false, false, false, false, false, false, false, false, false, false, false, false] rfl rfl (any_of HT_.out (by kernel_rfl)) (fun _ _ _ h => h) (Or.inl ⟨by rfl, ?_⟩) ?_ ?_
            rotate_left
            · intro w'
              go_simp
              with_reducible rfl
            rotate_left
            · simp only [Act.put, List.setIfInBounds_toArray, List.set_cons_zero, List.set_cons_succ, i64_w, i32_w]
              rfl
            refine pure_ (i := 23) (N := some 100) (v := ?_) (a' := ?_) #[true, true, true, true, true, true, true, true, true, true, true, true, true, true, true, true, true, true, true, true, true, true, true, true, false, false, false, false, false, false, false, false, false, false, false, false, false, false] rfl rfl (any_of HT_.out (by kernel_rfl)) (fun _ _ _ h => h) (Or.inl ⟨by rfl, ?_⟩) ?_ ?_
            rotate_left
            · intro w'
              go_simp
              with_reducible rfl
            rotate_left
            · simp only [Act.put, List.setIfInBounds_toArray, List.set_cons_zero, List.set_cons_succ, i64_w, i32_w]
              rfl
            refine pure_ (i := 24) (N := some 101) (v := ?_) (a' := ?_) #[true, true, true, true, true, true, true, true, true, true, true, true, true, true, true, true, true, true, true, true, true, true, true, true, true, false, false, false, false, false, false, false, false, false, false, false, false, false] rfl rfl (any_of HT_.out (by kernel_rfl)) (fun _ _ _ h => h) (Or.inl ⟨by rfl, ?_⟩) ?_ ?_
            rotate_left
            · intro w'
              go_simp
              with_reducible rfl
            rotate_left
            · simp only [Act.put, List.setIfInBounds_toArray, List.set_cons_zero, List.set_cons_succ, i64_w, i32_w]
              rfl
            refine pure_ (i := 25) (N := some 102) (v := ?_) (a' := ?_) #[true, true, true, true, true, true, true, true, true, true, true, true, true, true, true, true, true, true, true, true, true, true, true, true, true, true, false, false, false, false, false, false, false, false, false, false, false, false] rfl rfl (any_of HT_.out (by kernel_rfl)) (fun _ _ _ h => h) (Or.inl ⟨by rfl, ?_⟩) ?_ ?_
            rotate_left
            · intro w'
              go_simp
              with_reducible rfl
            rotate_left
            · simp only [Act.put, List.setIfInBounds_toArray, List.set_cons_zero, List.set_cons_succ, i64_w, i32_w]
              rfl
            refine pure_ (i := 27) (N := some 104) (v := ?_) (a' := ?_) #[true, true, true, true, true, true, true, true, true, true, true, true, true, true, true, true, true, true, true, true, true, true, true, true, true, true, false, true, false, false, false, false, false, false, false, false, false, false] rfl rfl (any_of HT_.out (by kernel_rfl)) (fun _ _ _ h => h) (Or.inl ⟨by rfl, ?_⟩) ?_ ?_
            rotate_left
            · intro w'
              go_simp
              with_reducible rfl
            rotate_left
            · simp only [Act.put, List.setIfInBounds_toArray, List.set_cons_zero, List.set_cons_succ, i64_w, i32_w]
              rfl
            refine pure_ (i := 28) (N := some 105) (v := ?_) (a' := ?_) #[true, true, true, true, true, true, true, true, true, true, true, true, true, true, true, true, true, true, true, true, true, true, true, true, true, true, false, true, true, false, false, false, false, false, false, false, false, false] rfl rfl (any_of HT_.out (by kernel_rfl)) (fun _ _ _ h => h) (Or.inl ⟨by rfl, ?_⟩) ?_ ?_
            rotate_left
            · intro w'
              go_simp
              with_reducible rfl
            rotate_left
            · simp only [Act.put, List.setIfInBounds_toArray, List.set_cons_zero, List.set_cons_succ, i64_w, i32_w]
              rfl
            refine pure_ (i := 29) (N := some 106) (v := ?_) (a' := ?_) #[true, true, true, true, true, true, true, true, true, true, true, true, true, true, true, true, true, true, true, true, true, true, true, true, true, true, false, true, true, true, false, false, false, false, false, false, false, false] rfl rfl (any_of HT_.out (by kernel_rfl)) (fun _ _ _ h => h) (Or.inl ⟨by rfl, ?_⟩) ?_ ?_
            rotate_left
            · intro w'
              go_simp
              with_reducible rfl
            rotate_left
            · simp only [Act.put, List.setIfInBounds_toArray, List.set_cons_zero, List.set_cons_succ, i64_w, i32_w]
              rfl
            refine pure_ (i := 30) (N := some 107) (v := ?_) (a' := ?_) #[true, true, true, true, true, true, true, true, true, true, true, true, true, true, true, true, true, true, true, true, true, true, true, true, true, true, false, true, true, true, true, false, false, false, false, false, false, false] rfl rfl (any_of HT_.out (by kernel_rfl)) (fun _ _ _ h => h) (Or.inl ⟨by rfl, ?_⟩) ?_ ?_
            rotate_left
            · intro w'
              go_simp
              with_reducible rfl
            rotate_left
            · simp only [Act.put, List.setIfInBounds_toArray, List.set_cons_zero, List.set_cons_succ, i64_w, i32_w]
              rfl
            refine pure_ (i := 32) (N := some 109) (v := ?_) (a' := ?_) #[true, true, true, true, true, true, true, true, true, true, true, true, true, true, true, true, true, true, true, true, true, true, true, true, true, true, false, true, true, true, true, false, true, false, false, false, false, false] rfl rfl (any_of HT_.out (by kernel_rfl)) (fun _ _ _ h => h) (Or.inl ⟨by rfl, ?_⟩) ?_ ?_
            rotate_left
            · intro w'
              go_simp
              with_reducible rfl
            rotate_left
            · simp only [Act.put, List.setIfInBounds_toArray, List.set_cons_zero, List.set_cons_succ, i64_w, i32_w]
              rfl
            refine take_ (i := 31) (N := some 108) (v := ?_) (a' := ?_) #[true, true, true, true, true, true, true, true, true, true, true, true, true, true, true, true, true, true, true, true, true, true, true, true, true, true, false, true, true, true, true, true, true, false, false, false, false, false] rfl rfl (take_ofW HT_.out HW_.out (by kernel_rfl)) (fun _ _ _ h => h) (Or.inl ⟨by rfl, ?_⟩) hHeld ?_ ?_
            rotate_left
            · rintro w' ⟨s0, s1, s2⟩
              go_simp
              with_reducible rfl
            rotate_left
            · simp only [Act.put, List.setIfInBounds_toArray, List.set_cons_zero, List.set_cons_succ, i64_w, i32_w]
              rfl
            refine one_ (i := 26) (N := some 103) #[true, true, true, true, true, true, true, true, true, true, true, true, true, true, true, true, true, true, true, true, true, true, true, true, true, true, true, true, true, true, true, true, true, false, false, false, false, false] rfl rfl (one_of HT_.out (by kernel_rfl)) (by decide) (fun K hK => ?_)
            refine goes_ Try.func15 (by kernel_rfl) rfl #[.pointer (some ⟨g, 0, none⟩), .int .i64 ((Fld.k (false, fz, fn, fs) : Nat) : Int)] (by rfl) rfl rfl (by simp only [List.map_toArray, List.map_cons, List.map_nil]; rfl) ?_
            with_reducible refine (num_c g _ _ _ wA _ (rp1 HP.out) (rp2 HP.out) hg.out (hrl2.out)).mono ?_
            rintro e w5 ⟨rfl, hp5⟩
            refine ⟨_, rfl, ?_⟩
            rw [hrest.out, show Fld.enc (false, fz, fn, fs) = putB fn (Fld.k (false, fz, fn, fs)) from rfl, take_enc _ _ _ (putB_length _ _)] at hp5 ⊢
            replace HP := Aside0.mk (rdPost_trans HP.out hp5)
            replace HBW := Aside0.mk (below_step HB.out HP.out.2.1)
            refine hK.out _ _ ⟨pw_cell_below HBW.out HX0.out, pw_cell_below HBW.out HX2.out, pw_cell_below HBW.out HX3.out⟩ (fun hHeld => ?_)
            clear hK K
            refine norm_ (a' := ?_) ?_ ?_
            rotate_left
            · show Act.put _ (some 103) _ = _
              simp only [Act.put, List.setIfInBounds_toArray, List.set_cons_zero, List.set_cons_succ, i64_w, i32_w]
              rfl
            refine one_ (i := 33) (N := some 110) #[true, true, true, true, true, true, true, true, true, true, true, true, true, true, true, true, true, true, true, true, true, true, true, true, true, true, true, true, true, true, true, true, true, true, false, false, false, false] rfl rfl (one_of HT_.out (by kernel_rfl)) (by decide) (fun K hK => ?_)
            refine goes_ Try.func17 (by kernel_rfl) rfl #[.int .u64 fn, .int .i64 ((Fld.k (false, fz, fn, fs) : Nat) : Int)] (by rfl) rfl rfl (by simp only [List.map_toArray, List.map_cons, List.map_nil]; rfl) ?_
            with_reducible refine (refput_c fn (Fld.k (false, fz, fn, fs)) _ hfn.out.1 hfn.out.2 hk18.out.2).mono ?_
            rintro e w6 ⟨A6, c6, rfl, hc6, hC6, hb6⟩
            refine ⟨_, rfl, ?_⟩
            replace HP := Aside0.mk (rdPost_trans HP.out (rdPost_refl HP.out.1 HP.out.2.1 hb6))
            replace hC6 := Aside0.mk hC6
            replace HBW := Aside0.mk (below_step HB.out HP.out.2.1)
            refine hK.out _ _ ⟨pw_cell_below HBW.out HX0.out, pw_cell_below HBW.out HX2.out, pw_cell_below HBW.out HX3.out⟩ (fun hHeld => ?_)
            clear hK K
            refine norm_ (a' := ?_) ?_ ?_
            rotate_left
            · show Act.put _ (some 110) _ = _
              simp only [Act.put, List.setIfInBounds_toArray, List.set_cons_zero, List.set_cons_succ, i64_w, i32_w]
              rfl
            refine one_ (i := 34) (N := some 111) #[true, true, true, true, true, true, true, true, true, true, true, true, true, true, true, true, true, true, true, true, true, true, true, true, true, true, true, true, true, true, true, true, true, true, true, false, false, false] rfl rfl (one_of HT_.out (by kernel_rfl)) (by decide) (fun K hK => ?_)
            refine goes_ Try.func16 (by kernel_rfl) rfl #[.slice A6 (putB fn (Fld.k (false, fz, fn, fs))).length c6] (by rfl) rfl rfl (by simp only [List.map_toArray, List.map_cons, List.map_nil]; rfl) ?_
            with_reducible refine (refget_c A6 c6 fn (Fld.k (false, fz, fn, fs)) _ hC6.out hc6 hk18.out.2).mono ?_
            rintro e w7 ⟨rfl, hb7⟩
            refine ⟨_, rfl, ?_⟩
            replace HP := Aside0.mk (rdPost_trans HP.out (rdPost_refl HP.out.1 HP.out.2.1 hb7))
            replace HBW := Aside0.mk (below_step HB.out HP.out.2.1)
            refine hK.out _ _ ⟨pw_cell_below HBW.out HX0.out, pw_cell_below HBW.out HX2.out, pw_cell_below HBW.out HX3.out⟩ (fun hHeld => ?_)
            clear hK K
            refine norm_ (a' := ?_) ?_ ?_
            rotate_left
            · show Act.put _ (some 111) _ = _
              simp only [Act.put, List.setIfInBounds_toArray, List.set_cons_zero, List.set_cons_succ, i64_w, i32_w]
              rfl
            refine pure_ (i := 35) (N := some 112) (v := ?_) (a' := ?_) #[true, true, true, true, true, true, true, true, true, true, true, true, true, true, true, true, true, true, true, true, true, true, true, true, true, true, true, true, true, true, true, true, true, true, true, true, false, false] rfl rfl (any_of HT_.out (by kernel_rfl)) (fun _ _ _ h => h) (Or.inl ⟨by rfl, ?_⟩) ?_ ?_
            rotate_left
            · intro w'
              go_simp
              with_reducible rfl
            rotate_left
            · simp only [Act.put, List.setIfInBounds_toArray, List.set_cons_zero, List.set_cons_succ, i64_w, i32_w]
              rfl
            refine pure_ (i := 36) (N := some 113) (v := ?_) (a' := ?_) #[true, true, true, true, true, true, true, true, true, true, true, true, true, true, true, true, true, true, true, true, true, true, true, true, true, true, true, true, true, true, true, true, true, true, true, true, true, false] rfl rfl (any_of HT_.out (by kernel_rfl)) (fun _ _ _ h => h) (Or.inl ⟨by rfl, ?_⟩) ?_ ?_
            rotate_left
            · intro w'
              go_simp
              with_reducible rfl
            rotate_left
            · simp only [Act.put, List.setIfInBounds_toArray, List.set_cons_zero, List.set_cons_succ, i64_w, i32_w]
              rfl
            refine pure_ (i := 37) (N := some 114) (v := ?_) (a' := ?_) #[true, true, true, true, true, true, true, true, true, true, true, true, true, true, true, true, true, true, true, true, true, true, true, true, true, true, true, true, true, true, true, true, true, true, true, true, true, true] rfl rfl (any_of HT_.out (by kernel_rfl)) (fun _ _ _ h => h) (Or.inl ⟨by rfl, ?_⟩) ?_ ?_
            rotate_left
            · intro w'
              go_simp
              with_reducible rfl
            rotate_left
            · simp only [Act.put, List.setIfInBounds_toArray, List.set_cons_zero, List.set_cons_succ, i64_w, i32_w]
              rfl
            refine done_ (done_of HT_.out (by kernel_rfl)) ?_
            have hlt : i < 30 := by omega
            clear p1' p1
            go_wp2
            go_roundg k1
            case measure => exact Nat.lt_succ_self _
            case rel => exact ⟨i + 1, by first | rfl | (congr 1; unfold wrap64; omega), ⟨by have := HK2.out; omega⟩, HP⟩
          | true =>
            go_wp2
            rw [ek.out]
            clear hx0 hx1 hx2 hx3
            replace HP := Aside0.mk (rdPost_trans HP.out (rdPost_refl HP.out.1 HP.out.2.1 (below_drew1 (Below.refl _ _))))
            replace HBW := Aside0.mk (below_drew1 HBW.out)
            refine start_ (n := 38) (S := fun w' => w'.cell? (ad.add (i * 4)) = some (.bool true) ∧ w'.cell? ⟨(ad.add (i * 4)).block, (ad.add (i * 4)).off + 2, none⟩ = some (.int .u64 fn) ∧ w'.cell? ⟨(ad.add (i * 4)).block, (ad.add (i * 4)).off + 3, none⟩ = some (.string fs)) (ds := []) #[false, false, false, false, false, false, false, false, false, false, false, false, false, false, false, false, false, false, false, false, false, false, false, false, false, false, false, false, false, false, false, false, false, false, false, false, false, false] (by kernel_rfl) rfl rfl ⟨pw_cell_below HBW.out HX0.out, pw_cell_below HBW.out HX2.out, pw_cell_below HBW.out HX3.out⟩ (fun hHeld => ?_)
            refine with_tabW counterpanelaw01_WordBack.tab21 counterpanelaw01_WordBack.bits21 (fun HT_ HW_ => ?_)
            generalize wr.drew = wd at HP HBW hHeld ⊢
            refine pure_ (i := 0) (N := some 77) (v := ?_) (a' := ?_) #[true, false, false, false, false, false, false, false, false, false, false, false, false, false, false, false, false, false, false, false, false, false, false, false, false, false, false, false, false, false, false, false, false, false, false, false, false, false] rfl rfl (any_of HT_.out (by kernel_rfl)) (fun _ _ _ h => h) (Or.inl ⟨by rfl, ?_⟩) ?_ ?_
            rotate_left
            · intro w'
              go_simp
              with_reducible rfl
            rotate_left
            · simp only [Act.put, List.setIfInBounds_toArray, List.set_cons_zero, List.set_cons_succ, i64_w, i32_w]
              rfl
            refine pure_ (i := 1) (N := some 78) (v := ?_) (a' := ?_) #[true, true, false, false, false, false, false, false, false, false, false, false, false, false, false, false, false, false, false, false, false, false, false, false, false, false, false, false, false, false, false, false, false, false, false, false, false, false] rfl rfl (any_of HT_.out (by kernel_rfl)) (fun _ _ _ h => h) (Or.inl ⟨by rfl, ?_⟩) ?_ ?_
            rotate_left
            · intro w'
              go_simp
              with_reducible rfl
            rotate_left
            · simp only [Act.put, List.setIfInBounds_toArray, List.set_cons_zero, List.set_cons_succ, i64_w, i32_w]
              rfl
            refine pure_ (i := 2) (N := some 79) (v := ?_) (a' := ?_) #[true, true, true, false, false, false, false, false, false, false, false, false, false, false, false, false, false, false, false, false, false, false, false, false, false, false, false, false, false, false, false, false, false, false, false, false, false, false] rfl rfl (any_of HT_.out (by kernel_rfl)) (fun _ _ _ h => h) (Or.inl ⟨by rfl, ?_⟩) ?_ ?_
            rotate_left
            · intro w'
              go_simp
              with_reducible rfl
            rotate_left
            · simp only [Act.put, List.setIfInBounds_toArray, List.set_cons_zero, List.set_cons_succ, i64_w, i32_w]
              rfl
            refine pure_ (i := 3) (N := some 80) (v := ?_) (a' := ?_) #[true, true, true, true, false, false, false, false, false, false, false, false, false, false, false, false, false, false, false, false, false, false, false, false, false, false, false, false, false, false, false, false, false, false, false, false, false, false] rfl rfl (any_of HT_.out (by kernel_rfl)) (fun _ _ _ h => h) (Or.inl ⟨by rfl, ?_⟩) ?_ ?_
            rotate_left
            · intro w'
              go_simp
              with_reducible rfl
            rotate_left
            · simp only [Act.put, List.setIfInBounds_toArray, List.set_cons_zero, List.set_cons_succ, i64_w, i32_w]
              rfl
            refine take_ (i := 4) (N := some 81) (v := ?_) (a' := ?_) #[true, true, true, true, true, false, false, false, false, false, false, false, false, false, false, false, false, false, false, false, false, false, false, false, false, false, false, false, false, false, false, false, false, false, false, false, false, false] rfl rfl (take_ofW HT_.out HW_.out (by kernel_rfl)) (fun _ _ _ h => h) (Or.inl ⟨by rfl, ?_⟩) hHeld ?_ ?_
            rotate_left
            · rintro w' ⟨s0, s1, s2⟩
              go_simp
              with_reducible rfl
            rotate_left
            · simp only [Act.put, List.setIfInBounds_toArray, List.set_cons_zero, List.set_cons_succ, i64_w, i32_w]
              rfl
            refine pure_ (i := 5) (N := some 82) (v := ?_) (a' := ?_) #[true, true, true, true, true, true, false, false, false, false, false, false, false, false, false, false, false, false, false, false, false, false, false, false, false, false, false, false, false, false, false, false, false, false, false, false, false, false] rfl rfl (any_of HT_.out (by kernel_rfl)) (fun _ _ _ h => h) (Or.inl ⟨by rfl, ?_⟩) ?_ ?_
            rotate_left
            · intro w'
              go_simp
              with_reducible rfl
            rotate_left
            · simp only [Act.put, List.setIfInBounds_toArray, List.set_cons_zero, List.set_cons_succ, i64_w, i32_w]
              rfl
            refine pure_ (i := 6) (N := some 83) (v := ?_) (a' := ?_) #[true, true, true, true, true, true, true, false, false, false, false, false, false, false, false, false, false, false, false, false, false, false, false, false, false, false, false, false, false, false, false, false, false, false, false, false, false, false] rfl rfl (any_of HT_.out (by kernel_rfl)) (fun _ _ _ h => h) (Or.inl ⟨by rfl, ?_⟩) ?_ ?_
            rotate_left
            · intro w'
              go_simp
              with_reducible rfl
            rotate_left
            · simp only [Act.put, List.setIfInBounds_toArray, List.set_cons_zero, List.set_cons_succ, i64_w, i32_w]
              rfl
            refine pure_ (i := 7) (N := some 84) (v := ?_) (a' := ?_) #[true, true, true, true, true, true, true, true, false, false, false, false, false, false, false, false, false, false, false, false, false, false, false, false, false, false, false, false, false, false, false, false, false, false, false, false, false, false] rfl rfl (any_of HT_.out (by kernel_rfl)) (fun _ _ _ h => h) (Or.inl ⟨by rfl, ?_⟩) ?_ ?_
            rotate_left
            · intro w'
              go_simp
              with_reducible rfl
            rotate_left
            · simp only [Act.put, List.setIfInBounds_toArray, List.set_cons_zero, List.set_cons_succ, i64_w, i32_w]
              rfl
            refine pure_ (i := 9) (N := some 86) (v := ?_) (a' := ?_) #[true, true, true, true, true, true, true, true, false, true, false, false, false, false, false, false, false, false, false, false, false, false, false, false, false, false, false, false, false, false, false, false, false, false, false, false, false, false] rfl rfl (any_of HT_.out (by kernel_rfl)) (fun _ _ _ h => h) (Or.inl ⟨by rfl, ?_⟩) ?_ ?_
            rotate_left
            · intro w'
              go_simp
              with_reducible rfl
            rotate_left
            · simp only [Act.put, List.setIfInBounds_toArray, List.set_cons_zero, List.set_cons_succ, i64_w, i32_w]
              rfl
            refine pure_ (i := 10) (N := some 87) (v := ?_) (a' := ?_) #[true, true, true, true, true, true, true, true, false, true, true, false, false, false, false, false, false, false, false, false, false, false, false, false, false, false, false, false, false, false, false, false, false, false, false, false, false, false] rfl rfl (any_of HT_.out (by kernel_rfl)) (fun _ _ _ h => h) (Or.inl ⟨by rfl, ?_⟩) ?_ ?_
            rotate_left
            · intro w'
              go_simp
              with_reducible rfl
            rotate_left
            · simp only [Act.put, List.setIfInBounds_toArray, List.set_cons_zero, List.set_cons_succ, i64_w, i32_w]
              rfl
            refine pure_ (i := 11) (N := some 88) (v := ?_) (a' := ?_) #[true, true, true, true, true, true, true, true, false, true, true, true, false, false, false, false, false, false, false, false, false, false, false, false, false, false, false, false, false, false, false, false, false, false, false, false, false, false] rfl rfl (any_of HT_.out (by kernel_rfl)) (fun _ _ _ h => h) (Or.inl ⟨by rfl, ?_⟩) ?_ ?_
            rotate_left
            · intro w'
              go_simp
              with_reducible rfl
            rotate_left
            · simp only [Act.put, List.setIfInBounds_toArray, List.set_cons_zero, List.set_cons_succ, i64_w, i32_w]
              rfl
            refine pure_ (i := 12) (N := some 89) (v := ?_) (a' := ?_) #[true, true, true, true, true, true, true, true, false, true, true, true, true, false, false, false, false, false, false, false, false, false, false, false, false, false, false, false, false, false, false, false, false, false, false, false, false, false] rfl rfl (any_of HT_.out (by kernel_rfl)) (fun _ _ _ h => h) (Or.inl ⟨by rfl, ?_⟩) ?_ ?_
            rotate_left
            · intro w'
              go_simp
              with_reducible rfl
            rotate_left
            · simp only [Act.put, List.setIfInBounds_toArray, List.set_cons_zero, List.set_cons_succ, i64_w, i32_w]
              rfl
            refine take_ (i := 13) (N := some 90) (v := ?_) (a' := ?_) #[true, true, true, true, true, true, true, true, false, true, true, true, true, true, false, false, false, false, false, false, false, false, false, false, false, false, false, false, false, false, false, false, false, false, false, false, false, false] rfl rfl (take_ofW HT_.out HW_.out (by kernel_rfl)) (fun _ _ _ h => h) (Or.inl ⟨by rfl, ?_⟩) hHeld ?_ ?_
            rotate_left
            · rintro w' ⟨s0, s1, s2⟩
              go_simp
              with_reducible rfl
            rotate_left
            · simp only [Act.put, List.setIfInBounds_toArray, List.set_cons_zero, List.set_cons_succ, i64_w, i32_w]
              rfl
            refine one_ (i := 8) (N := some 85) #[true, true, true, true, true, true, true, true, true, true, true, true, true, true, false, false, false, false, false, false, false, false, false, false, false, false, false, false, false, false, false, false, false, false, false, false, false, false] rfl rfl (one_of HT_.out (by kernel_rfl)) (by decide) (fun K hK => ?_)
            refine goes_ Try.func10 (by kernel_rfl) rfl #[.pointer (some ⟨g, 0, none⟩), .int .i64 ((Fld.k (true, fz, fn, fs) : Nat) : Int)] (by rfl) rfl rfl (by simp only [List.map_toArray, List.map_cons, List.map_nil]; rfl) ?_
            with_reducible refine (text_c g _ _ _ wA _ (rp1 HP.out) (rp2 HP.out) hg.out (hrl2.out) hrb.out).mono ?_
            rintro e w5 ⟨rfl, hp5⟩
            refine ⟨_, rfl, ?_⟩
            rw [hrest.out, text_enc (true, fz, fn, fs) _ rfl hcode.out] at hp5 ⊢
            simp only [strOfNums_bytesOf]
            replace HP := Aside0.mk (rdPost_trans HP.out hp5)
            replace HBW := Aside0.mk (below_step HB.out HP.out.2.1)
            refine hK.out _ _ ⟨pw_cell_below HBW.out HX0.out, pw_cell_below HBW.out HX2.out, pw_cell_below HBW.out HX3.out⟩ (fun hHeld => ?_)
            clear hK K
            refine norm_ (a' := ?_) ?_ ?_
            rotate_left
            · show Act.put _ (some 85) _ = _
              simp only [Act.put, List.setIfInBounds_toArray, List.set_cons_zero, List.set_cons_succ, i64_w, i32_w]
              rfl
            refine pure_ (i := 14) (N := some 91) (v := ?_) (a' := ?_) #[true, true, true, true, true, true, true, true, true, true, true, true, true, true, true, false, false, false, false, false, false, false, false, false, false, false, false, false, false, false, false, false, false, false, false, false, false, false] rfl rfl (any_of HT_.out (by kernel_rfl)) (fun _ _ _ h => h) (Or.inl ⟨by rfl, ?_⟩) ?_ ?_
            rotate_left
            · intro w'
              go_simp
              with_reducible rfl
            rotate_left
            · simp only [Act.put, List.setIfInBounds_toArray, List.set_cons_zero, List.set_cons_succ, i64_w, i32_w]
              rfl
            refine pure_ (i := 15) (N := some 92) (v := ?_) (a' := ?_) #[true, true, true, true, true, true, true, true, true, true, true, true, true, true, true, true, false, false, false, false, false, false, false, false, false, false, false, false, false, false, false, false, false, false, false, false, false, false] rfl rfl (any_of HT_.out (by kernel_rfl)) (fun _ _ _ h => h) (Or.inl ⟨by rfl, ?_⟩) ?_ ?_
            rotate_left
            · intro w'
              go_simp
              with_reducible rfl
            rotate_left
            · simp only [Act.put, List.setIfInBounds_toArray, List.set_cons_zero, List.set_cons_succ, i64_w, i32_w]
              rfl
            refine pure_ (i := 16) (N := some 93) (v := ?_) (a' := ?_) #[true, true, true, true, true, true, true, true, true, true, true, true, true, true, true, true, true, false, false, false, false, false, false, false, false, false, false, false, false, false, false, false, false, false, false, false, false, false] rfl rfl (any_of HT_.out (by kernel_rfl)) (fun _ _ _ h => h) (Or.inl ⟨by rfl, ?_⟩) ?_ ?_
            rotate_left
            · intro w'
              go_simp
              with_reducible rfl
            rotate_left
            · simp only [Act.put, List.setIfInBounds_toArray, List.set_cons_zero, List.set_cons_succ, i64_w, i32_w]
              rfl
            refine pure_ (i := 17) (N := some 94) (v := ?_) (a' := ?_) #[true, true, true, true, true, true, true, true, true, true, true, true, true, true, true, true, true, true, false, false, false, false, false, false, false, false, false, false, false, false, false, false, false, false, false, false, false, false] rfl rfl (any_of HT_.out (by kernel_rfl)) (fun _ _ _ h => h) (Or.inl ⟨by rfl, ?_⟩) ?_ ?_
            rotate_left
            · intro w'
              go_simp
              with_reducible rfl
            rotate_left
            · simp only [Act.put, List.setIfInBounds_toArray, List.set_cons_zero, List.set_cons_succ, i64_w, i32_w]
              rfl
            refine pure_ (i := 18) (N := some 95) (v := ?_) (a' := ?_) #[true, true, true, true, true, true, true, true, true, true, true, true, true, true, true, true, true, true, true, false, false, false, false, false, false, false, false, false, false, false, false, false, false, false, false, false, false, false] rfl rfl (any_of HT_.out (by kernel_rfl)) (fun _ _ _ h => h) (Or.inl ⟨by rfl, ?_⟩) ?_ ?_
            rotate_left
            · intro w'
              go_simp
              with_reducible rfl
            rotate_left
            · simp only [Act.put, List.setIfInBounds_toArray, List.set_cons_zero, List.set_cons_succ, i64_w, i32_w]
              rfl
            refine pure_ (i := 19) (N := some 96) (v := ?_) (a' := ?_) #[true, true, true, true, true, true, true, true, true, true, true, true, true, true, true, true, true, true, true, true, false, false, false, false, false, false, false, false, false, false, false, false, false, false, false, false, false, false] rfl rfl (any_of HT_.out (by kernel_rfl)) (fun _ _ _ h => h) (Or.inl ⟨by rfl, ?_⟩) ?_ ?_
            rotate_left
            · intro w'
              go_simp
              with_reducible rfl
            rotate_left
            · simp only [Act.put, List.setIfInBounds_toArray, List.set_cons_zero, List.set_cons_succ, i64_w, i32_w]
              rfl
            refine pure_ (i := 20) (N := some 97) (v := ?_) (a' := ?_) #[true, true, true, true, true, true, true, true, true, true, true, true, true, true, true, true, true, true, true, true, true, false, false, false, false, false, false, false, false, false, false, false, false, false, false, false, false, false] rfl rfl (any_of HT_.out (by kernel_rfl)) (fun _ _ _ h => h) (Or.inl ⟨by rfl, ?_⟩) ?_ ?_
            rotate_left
            · intro w'
              go_simp
              with_reducible rfl
            rotate_left
            · simp only [Act.put, List.setIfInBounds_toArray, List.set_cons_zero, List.set_cons_succ, i64_w, i32_w]
              rfl
            refine take_ (i := 21) (N := some 98) (v := ?_) (a' := ?_) #[true, true, true, true, true, true, true, true, true, true, true, true, true, true, true, true, true, true, true, true, true, true, false, false, false, false, false, false, false, false, false, false, false, false, false, false, false, false] rfl rfl (take_ofW HT_.out HW_.out (by kernel_rfl)) (fun _ _ _ h => h) (Or.inl ⟨by rfl, ?_⟩) hHeld ?_ ?_
            rotate_left
            · rintro w' ⟨s0, s1, s2⟩
              go_simp
              with_reducible rfl
            rotate_left
            · simp only [Act.put, List.setIfInBounds_toArray, List.set_cons_zero, List.set_cons_succ, i64_w, i32_w]
              rfl
            refine pure_ (i := 22) (N := some 99) (v := ?_) (a' := ?_) #[true, true, true, true, true, true, true, true, true, true, true, true, true, true, true, true, true, true, true, true, true, true, true, false, false, false, false, false, false, false, false, false, false, false, false, false, false, false] rfl rfl (any_of HT_.out (by kernel_rfl)) (fun _ _ _ h => h) (Or.inl ⟨by rfl, ?_⟩) ?_ ?_
            rotate_left
            · intro w'
              go_simp
              with_reducible rfl
            rotate_left
            · simp only [Act.put, List.setIfInBounds_toArray, List.set_cons_zero, List.set_cons_succ, i64_w, i32_w]
              rfl
            refine pure_ (i := 23) (N := some 100) (v := ?_) (a' := ?_) #[true, true, true, true, true, true, true, true, true, true, true, true, true, true, true, true, true, true, true, true, true, true, true, true, false, false, false, false, false, false, false, false, false, false, false, false, false, false] rfl rfl (any_of HT_.out (by kernel_rfl)) (fun _ _ _ h => h) (Or.inl ⟨by rfl, ?_⟩) ?_ ?_
            rotate_left
            · intro w'
              go_simp
              with_reducible rfl
            rotate_left
            · simp only [Act.put, List.setIfInBounds_toArray, List.set_cons_zero, List.set_cons_succ, i64_w, i32_w]
              rfl
            refine pure_ (i := 24) (N := some 101) (v := undef) (a' := ?_) #[true, true, true, true, true, true, true, true, true, true, true, true, true, true, true, true, true, true, true, true, true, true, true, true, true, false, false, false, false, false, false, false, false, false, false, false, false, false] rfl rfl (any_of HT_.out (by kernel_rfl)) (fun _ _ _ h => h) (Or.inr ⟨by rfl, rfl⟩) ?_ ?_
            rotate_left
            · simp only [Act.put, List.setIfInBounds_toArray, List.set_cons_zero, List.set_cons_succ, i64_w, i32_w]
              rfl
            refine pure_ (i := 25) (N := some 102) (v := undef) (a' := ?_) #[true, true, true, true, true, true, true, true, true, true, true, true, true, true, true, true, true, true, true, true, true, true, true, true, true, true, false, false, false, false, false, false, false, false, false, false, false, false] rfl rfl (any_of HT_.out (by kernel_rfl)) (fun _ _ _ h => h) (Or.inr ⟨by rfl, rfl⟩) ?_ ?_
            rotate_left
            · simp only [Act.put, List.setIfInBounds_toArray, List.set_cons_zero, List.set_cons_succ, i64_w, i32_w]
              rfl
            refine pure_ (i := 26) (N := some 103) (v := undef) (a' := ?_) #[true, true, true, true, true, true, true, true, true, true, true, true, true, true, true, true, true, true, true, true, true, true, true, true, true, true, true, false, false, false, false, false, false, false, false, false, false, false] rfl rfl (any_of HT_.out (by kernel_rfl)) (fun _ _ _ h => h) (Or.inr ⟨by rfl, rfl⟩) ?_ ?_
            rotate_left
            · simp only [Act.put, List.setIfInBounds_toArray, List.set_cons_zero, List.set_cons_succ, i64_w, i32_w]
              rfl
            refine pure_ (i := 27) (N := some 104) (v := undef) (a' := ?_) #[true, true, true, true, true, true, true, true, true, true, true, true, true, true, true, true, true, true, true, true, true, true, true, true, true, true, true, true, false, false, false, false, false, false, false, false, false, false] rfl rfl (any_of HT_.out (by kernel_rfl)) (fun _ _ _ h => h) (Or.inr ⟨by rfl, rfl⟩) ?_ ?_
            rotate_left
            · simp only [Act.put, List.setIfInBounds_toArray, List.set_cons_zero, List.set_cons_succ, i64_w, i32_w]
              rfl
            refine pure_ (i := 28) (N := some 105) (v := undef) (a' := ?_) #[true, true, true, true, true, true, true, true, true, true, true, true, true, true, true, true, true, true, true, true, true, true, true, true, true, true, true, true, true, false, false, false, false, false, false, false, false, false] rfl rfl (any_of HT_.out (by kernel_rfl)) (fun _ _ _ h => h) (Or.inr ⟨by rfl, rfl⟩) ?_ ?_
            rotate_left
            · simp only [Act.put, List.setIfInBounds_toArray, List.set_cons_zero, List.set_cons_succ, i64_w, i32_w]
              rfl
            refine pure_ (i := 29) (N := some 106) (v := undef) (a' := ?_) #[true, true, true, true, true, true, true, true, true, true, true, true, true, true, true, true, true, true, true, true, true, true, true, true, true, true, true, true, true, true, false, false, false, false, false, false, false, false] rfl rfl (any_of HT_.out (by kernel_rfl)) (fun _ _ _ h => h) (Or.inr ⟨by rfl, rfl⟩) ?_ ?_
            rotate_left
            · simp only [Act.put, List.setIfInBounds_toArray, List.set_cons_zero, List.set_cons_succ, i64_w, i32_w]
              rfl
            refine pure_ (i := 30) (N := some 107) (v := undef) (a' := ?_) #[true, true, true, true, true, true, true, true, true, true, true, true, true, true, true, true, true, true, true, true, true, true, true, true, true, true, true, true, true, true, true, false, false, false, false, false, false, false] rfl rfl (any_of HT_.out (by kernel_rfl)) (fun _ _ _ h => h) (Or.inr ⟨by rfl, rfl⟩) ?_ ?_
            rotate_left
            · simp only [Act.put, List.setIfInBounds_toArray, List.set_cons_zero, List.set_cons_succ, i64_w, i32_w]
              rfl
            refine pure_ (i := 31) (N := some 108) (v := undef) (a' := ?_) #[true, true, true, true, true, true, true, true, true, true, true, true, true, true, true, true, true, true, true, true, true, true, true, true, true, true, true, true, true, true, true, true, false, false, false, false, false, false] rfl rfl (any_of HT_.out (by kernel_rfl)) (fun _ _ _ h => h) (Or.inr ⟨by rfl, rfl⟩) ?_ ?_
            rotate_left
            · simp only [Act.put, List.setIfInBounds_toArray, List.set_cons_zero, List.set_cons_succ, i64_w, i32_w]
              rfl
            refine pure_ (i := 32) (N := some 109) (v := undef) (a' := ?_) #[true, true, true, true, true, true, true, true, true, true, true, true, true, true, true, true, true, true, true, true, true, true, true, true, true, true, true, true, true, true, true, true, true, false, false, false, false, false] rfl rfl (any_of HT_.out (by kernel_rfl)) (fun _ _ _ h => h) (Or.inr ⟨by rfl, rfl⟩) ?_ ?_
            rotate_left
            · simp only [Act.put, List.setIfInBounds_toArray, List.set_cons_zero, List.set_cons_succ, i64_w, i32_w]
              rfl
            refine pure_ (i := 33) (N := some 110) (v := undef) (a' := ?_) #[true, true, true, true, true, true, true, true, true, true, true, true, true, true, true, true, true, true, true, true, true, true, true, true, true, true, true, true, true, true, true, true, true, true, false, false, false, false] rfl rfl (any_of HT_.out (by kernel_rfl)) (fun _ _ _ h => h) (Or.inr ⟨by rfl, rfl⟩) ?_ ?_
            rotate_left
            · simp only [Act.put, List.setIfInBounds_toArray, List.set_cons_zero, List.set_cons_succ, i64_w, i32_w]
              rfl
            refine pure_ (i := 34) (N := some 111) (v := undef) (a' := ?_) #[true, true, true, true, true, true, true, true, true, true, true, true, true, true, true, true, true, true, true, true, true, true, true, true, true, true, true, true, true, true, true, true, true, true, true, false, false, false] rfl rfl (any_of HT_.out (by kernel_rfl)) (fun _ _ _ h => h) (Or.inr ⟨by rfl, rfl⟩) ?_ ?_
            rotate_left
            · simp only [Act.put, List.setIfInBounds_toArray, List.set_cons_zero, List.set_cons_succ, i64_w, i32_w]
              rfl
            refine pure_ (i := 35) (N := some 112) (v := undef) (a' := ?_) #[true, true, true, true, true, true, true, true, true, true, true, true, true, true, true, true, true, true, true, true, true, true, true, true, true, true, true, true, true, true, true, true, true, true, true, true, false, false] rfl rfl (any_of HT_.out (by kernel_rfl)) (fun _ _ _ h => h) (Or.inr ⟨by rfl, rfl⟩) ?_ ?_
            rotate_left
            · simp only [Act.put, List.setIfInBounds_toArray, List.set_cons_zero, List.set_cons_succ, i64_w, i32_w]
              rfl
            refine pure_ (i := 36) (N := some 113) (v := ?_) (a' := ?_) #[true, true, true, true, true, true, true, true, true, true, true, true, true, true, true, true, true, true, true, true, true, true, true, true, true, true, true, true, true, true, true, true, true, true, true, true, true, false] rfl rfl (any_of HT_.out (by kernel_rfl)) (fun _ _ _ h => h) (Or.inl ⟨by rfl, ?_⟩) ?_ ?_
            rotate_left
            · intro w'
              go_simp
              with_reducible rfl
            rotate_left
            · simp only [Act.put, List.setIfInBounds_toArray, List.set_cons_zero, List.set_cons_succ, i64_w, i32_w]
              rfl
            refine pure_ (i := 37) (N := some 114) (v := ?_) (a' := ?_) #[true, true, true, true, true, true, true, true, true, true, true, true, true, true, true, true, true, true, true, true, true, true, true, true, true, true, true, true, true, true, true, true, true, true, true, true, true, true] rfl rfl (any_of HT_.out (by kernel_rfl)) (fun _ _ _ h => h) (Or.inl ⟨by rfl, ?_⟩) ?_ ?_
            rotate_left
            · intro w'
              go_simp
              with_reducible rfl
            rotate_left
            · simp only [Act.put, List.setIfInBounds_toArray, List.set_cons_zero, List.set_cons_succ, i64_w, i32_w]
              rfl
            refine done_ (done_of HT_.out (by kernel_rfl)) ?_
            have hlt : i < 30 := by omega
            clear p1' p1
            go_wp2
            go_roundg k1
            case measure => exact Nat.lt_succ_self _
            case rel => exact ⟨i + 1, by first | rfl | (congr 1; unfold wrap64; omega), ⟨by have := HK2.out; omega⟩, HP⟩
        · have p1 := eq_false (show ¬ (i : Int) < (l.length : Int) by omega)
          have p1' := eq_false hi
          have hti : l.drop i = [] := List.drop_of_length_le (by omega)
          rw [hti] at HP
          replace HP : Aside0 (RdPost wA w1 g [] false wr) := HP
          go_wp2_with fail
          refine (right_c g _ _ wA _ HP.out.1 HP.out.2.1).mono ?_
          rintro e w5 ⟨rfl, hp5⟩
          replace hp5 := Aside0.mk hp5
          go_wp2_with fail
          refine (left_c g _ _ wA _ hp5.out.1 hp5.out.2.1).mono ?_
          rintro e w6 ⟨rfl, hp6⟩
          replace hp6 := Aside0.mk hp6
          go_wp2_with fail
          refine (noughts_c g _ _ wA _ hp6.out.1 hp6.out.2.1).mono ?_
          rintro e w7 ⟨rfl, hp7⟩
          replace hp7 := Aside0.mk hp7
          have en : (noughts [] && !false) = true := rfl
          rw [en]
          have HB7 := Aside0.mk (below_step HB.out hp7.out.2.1)
          by_cases h0 : (encs l).length = 0
          · have p3 := eq_true (show ((encs l).length : Int) = 0 by omega)
            have p3' := eq_true h0
            have p3'' := List.eq_nil_of_length_eq_zero h0
            go_wp2_with (go_at_call 6; refine (counterpanelaw01_works.calls0 _).mono ?_; rintro e w8 ⟨rfl, hb8⟩)
            go_ret
            exact ⟨rfl, below_step HB7.out hb8⟩
          · have p3 := eq_false (show ¬ ((encs l).length : Int) = 0 by omega)
            have p3' := eq_false h0
            have p4 := eq_true (show (1 : Int) ≤ ((encs l).length : Int) by omega)
            have p4' := eq_true (show 1 ≤ (encs l).length by omega)
            obtain ⟨i0, hi0, _, hsz, _⟩ := info_parts info5
            obtain ⟨A5, hcut5, hA5, hC5⟩ := print_drop_of (P := Try.prog) (Value.int .u8) 0 22 5 .i64 Try.underlying22 hi0 hsz A c (encs l) 1 (by decide) (by omega) HEc.out.1
            have HR5 := Aside0.mk (Kd.C_of_reads (h1 := fun _ => rfl) (hA5 _ (Kd.reads_of_C (Kd.C_below HEc.out.2 hp7.out.2.1))))
            have hC5' := Aside0.mk hC5
            clear hA5 hC5 hi0 hsz
            have l5 : ((encs l).drop (1 : Int).toNat).length = (encs l).length - 1 := List.length_drop
            have l5' := Aside0.mk l5
            rw [l5] at hcut5
            clear l5
            go_wp2_with fail
            refine (read_n A5 (c - 1) _ ((encs l).drop (1 : Int).toNat) _ l5'.out.symm HR5.out hC5'.out (by have := l5'.out; have := hel.out; omega)).mono ?_
            rintro e w8 ⟨g8, rfl, hg8, hR8, hb8⟩
            replace hR8 := Aside0.mk hR8
            go_wp2_with fail
            refine (take_c g8 _ _ _ w7 _ hR8.out hb8 hg8).mono ?_
            rintro e w9 ⟨A9, c9, rfl, hc9, hC9, hf9, hp9⟩
            have et : takeF ((encs l).drop (1 : Int).toNat) false ((encs l).length : Int) = ([], (encs l).drop (1 : Int).toNat, true) := by
              unfold takeF; rw [if_pos (by right; right; rw [l5'.out]; omega)]
            rw [et] at hp9 hc9 ⊢
            replace hp9 : Aside0 (RdPost w7 w8 g8 ((encs l).drop (1 : Int).toNat) true w9) := ⟨hp9⟩
            go_wp2_with fail
            refine (right_c g8 _ _ w7 _ hp9.out.1 hp9.out.2.1).mono ?_
            rintro e w10 ⟨rfl, hp10⟩
            replace hp10 := Aside0.mk hp10
            go_wp2_with fail
            refine (noughts_c g8 _ _ w7 _ hp10.out.1 hp10.out.2.1).mono ?_
            rintro e w11 ⟨rfl, hp11⟩
            replace hp11 := Aside0.mk hp11
            have en2 : (noughts ((encs l).drop (1 : Int).toNat) && !true) = false := by simp
            rw [en2]
            go_wp2_with (go_at_call 6; refine (counterpanelaw01_works.calls0 _).mono ?_; rintro e w12 ⟨rfl, hb12⟩)
            go_ret
            exact ⟨rfl, below_step (below_step HB7.out hp11.out.2.1) hb12⟩
end Go.Proofs.Ytmmeioifbiakjaa.PAll
