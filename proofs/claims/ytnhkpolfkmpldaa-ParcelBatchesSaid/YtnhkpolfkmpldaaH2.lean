/- Texts of the walk by hand, merged. -/
import Derived.Test.YtnhkpolfkmpldaaH1
/- IsOp, IsAnswer: what holds while they read. -/
namespace Go.Proofs.Ytnhkpolfkmpldaa.PAll
open Go.RowKit Go.Proofs.YtnhkpolfkmpldaaW.PrintWords Go.Proofs.YtnhkpolfkmpldaaW.PrintLast Go.Proofs.YtnhkpolfkmpldaaW.PrintMore
set_option linter.unusedVariables false
set_option linter.unusedSimpArgs false

/-- What is still to be read, and whether something was wrong. -/
abbrev Rest := List Int × Bool
def St (w0 : World) (bs : List Nat) (g : Nat) (s : Rest) (W : World) : Prop := Rd W g s.1 s.2 ∧ Below w0.heap.size w0 W ∧ w0.heap.size ≤ g ∧ s.1.length < 1000000000 ∧ Bytes s.1 ∧ ∀ b ∈ bs, b ≠ g ∧ b < W.heap.size ∧ w0.heap.size ≤ b
/-- What a step leaves alone. -/
def Same (bs : List Nat) (W W' : World) : Prop := ∀ b ∈ bs, W'.heap[b]? = W.heap[b]?
theorem takeF_rest {s : Rest} {k : Int} : (takeF s.1 s.2 k).2.1.length ≤ s.1.length ∧ (Bytes s.1 → Bytes (takeF s.1 s.2 k).2.1) := by
  unfold takeF
  split
  · exact ⟨Nat.le_refl _, fun h => h⟩
  · exact ⟨by simp only [List.length_drop]; omega, fun h x hx => h x (List.mem_of_mem_drop hx)⟩
theorem St.post {w0 W W' : World} {bs : List Nat} {g : Nat} {s : Rest} {t : Rest} (h : St w0 bs g s W) (hp : RdPost w0 W g t.1 t.2 W') (hl : t.1.length ≤ s.1.length) (hb : Bytes s.1 → Bytes t.1) : St w0 bs g t W' ∧ Same bs W W' :=
  ⟨⟨rp1 hp, rp2 hp, h.2.2.1, by have := h.2.2.2.1; omega, hb h.2.2.2.2.1, fun b hb => ⟨(h.2.2.2.2.2 b hb).1, Nat.lt_of_lt_of_le (h.2.2.2.2.2 b hb).2.1 (rp3 hp).1, (h.2.2.2.2.2 b hb).2.2⟩⟩, fun b hb => (rp3 hp).2 b (h.2.2.2.2.2 b hb).2.1 (h.2.2.2.2.2 b hb).1 (by simp)⟩
theorem St.rd {w0 W : World} {bs : List Nat} {g : Nat} {s : Rest} (h : St w0 bs g s W) : Rd W g s.1 s.2 := h.1
theorem St.below {w0 W : World} {bs : List Nat} {g : Nat} {s : Rest} (h : St w0 bs g s W) : Below w0.heap.size w0 W := h.2.1
theorem St.lt {w0 W : World} {bs : List Nat} {g : Nat} {s : Rest} (h : St w0 bs g s W) {b : Nat} (hb : b ∈ bs) : b < W.heap.size := (h.2.2.2.2.2 b hb).2.1
theorem St.keep {w0 W W' : World} {bs : List Nat} {g : Nat} {s : Rest} (h : St w0 bs g s W) (hk : Below W.heap.size W W') : St w0 bs g s W' ∧ Same bs W W' :=
  h.post (t := s) (rdPost_refl h.1 h.2.1 hk) (Nat.le_refl _) (fun h => h)
/-- A block more. -/
theorem St.more {w0 W : World} {bs : List Nat} {g b : Nat} {s : Rest} (h : St w0 bs g s W) (hb : b ≠ g) (hl : b < W.heap.size) (h0 : w0.heap.size ≤ b) : St w0 (b :: bs) g s W :=
  ⟨h.1, h.2.1, h.2.2.1, h.2.2.2.1, h.2.2.2.2.1, fun x hx => by
    rcases List.mem_cons.1 hx with rfl | hx
    · exact ⟨hb, hl, h0⟩
    · exact h.2.2.2.2.2 x hx⟩
/-- A store into a block that is none of the reader's and not its data's. -/
theorem St.set_ {w0 W : World} {bs : List Nat} {g b : Nat} {s : Rest} (h : St w0 bs g s W) (hb : g < b) (j : Nat) (u : Value) : St w0 bs g s (W.setCell ⟨b, j, none⟩ u) := by
  have hk : ∀ c, c ≠ b → (W.setCell ⟨b, j, none⟩ u).heap[c]? = W.heap[c]? := fun c hc => Below.heap_setCell W ⟨b, j, none⟩ u c hc
  obtain ⟨⟨A, c, h1, h2, h3, h4⟩, h5, h6, h7, h8, h9⟩ := h
  refine ⟨⟨A, c, by rw [hk g (by omega)]; exact h1, h2, int_C_moved h3 (fun ad e hp => hk _ (by have := h4 ad e hp; omega)), h4⟩, below_set h5 (by omega), h6, h7, h8, fun x hx => ⟨(h9 x hx).1, ?_, (h9 x hx).2.2⟩⟩
  rw [World.size_setCell]
  exact (h9 x hx).2.1
theorem St.wrote {w0 W W1 : World} {bs : List Nat} {g b : Nat} {s : Rest} (h : St w0 bs g s W) (hb : g < b) (hw : Wrote b W W1) : St w0 bs g s W1 := by
  obtain ⟨⟨A, c, h1, h2, h3, h4⟩, h5, h6, h7, h8, h9⟩ := h
  refine ⟨⟨A, c, hw.blk (by omega) h1, h2, int_C_moved h3 (fun ad e hp => hw.2.2.2.2 _ (by have := h4 ad e hp; omega)), h4⟩, hw.below h5 (by omega), h6, h7, h8, fun x hx => ⟨(h9 x hx).1, ?_, (h9 x hx).2.2⟩⟩
  rw [hw.2.2.2.1]
  exact (h9 x hx).2.1
/-- The next number. -/
def nextN (s : Rest) (k : Int) : Int × Rest := (getN (takeF s.1 s.2 k).1, (takeF s.1 s.2 k).2)
def nextS (s : Rest) : Int × Rest := (small (getN (takeF s.1 s.2 4).1), (takeF s.1 s.2 4).2)
def nextT (s : Rest) (k : Int) : ByteArray × Rest := (strOfNums (textF s.1 s.2 k).1, (textF s.1 s.2 k).2)
theorem num_s {w0 w : World} {bs : List Nat} {g : Nat} {s t : Rest} {k v : Int} (hv : nextN s k = (v, t)) (h : St w0 bs g s w) :
    Calls Try.prog 30 #[.pointer (some ⟨g, 0, none⟩), .int .i64 k] w fun e w' => e = .returned (.int .u64 v) ∧ St w0 bs g t w' ∧ Same bs w w' := by
  obtain ⟨rfl, rfl⟩ := Prod.mk.inj hv
  refine (num_c g s.1 s.2 k w0 w h.1 h.2.1 h.2.2.1 (by have := h.2.2.2.1; omega)).mono ?_
  rintro e w1 ⟨rfl, hp⟩
  exact ⟨rfl, h.post hp takeF_rest.1 takeF_rest.2⟩
theorem small_s {w0 w : World} {bs : List Nat} {g b : Nat} {s t : Rest} {v : Int} (hv : nextS s = (v, t)) (h : St w0 bs g s w) (hb : w.heap[b]? = some (.cells #[.pointer (some ⟨g, 0, none⟩)] 63 (0, 0))) :
    Calls Try.prog 29 #[.pointer (some ⟨b, 0, none⟩)] w fun e w' => e = .returned (.int .u32 v) ∧ St w0 bs g t w' ∧ Same bs w w' := by
  obtain ⟨rfl, rfl⟩ := Prod.mk.inj hv
  refine (small_c g b s.1 s.2 w0 w h.1 hb h.2.1 h.2.2.1 (by have := h.2.2.2.1; omega)).mono ?_
  rintro e w1 ⟨rfl, hp⟩
  exact ⟨rfl, h.post hp takeF_rest.1 takeF_rest.2⟩
theorem textF_rest {s : Rest} {k : Int} : (textF s.1 s.2 k).2.1 = (takeF s.1 s.2 k).2.1 := by
  unfold textF
  obtain ⟨a, b, c⟩ := takeF s.1 s.2 k
  unfold textG
  cases c <;> simp only <;> (try split) <;> rfl
theorem text_s {w0 w : World} {bs : List Nat} {g : Nat} {s t : Rest} {k : Int} {v : ByteArray} (hv : nextT s k = (v, t)) (h : St w0 bs g s w) :
    Calls Try.prog 31 #[.pointer (some ⟨g, 0, none⟩), .int .i64 k] w fun e w' => e = .returned (.string v) ∧ St w0 bs g t w' ∧ Same bs w w' := by
  obtain ⟨rfl, rfl⟩ := Prod.mk.inj hv
  refine (text_c g s.1 s.2 k w0 w h.1 h.2.1 h.2.2.1 (by have := h.2.2.2.1; omega) h.2.2.2.2.1).mono ?_
  rintro e w1 ⟨rfl, hp⟩
  exact ⟨rfl, h.post hp (by rw [textF_rest]; exact takeF_rest.1) (by rw [textF_rest]; exact takeF_rest.2)⟩
theorem right_s {w0 w : World} {bs : List Nat} {g : Nat} {s : Rest} (h : St w0 bs g s w) :
    Calls Try.prog 32 #[.pointer (some ⟨g, 0, none⟩)] w fun e w' => e = .returned (.bool (!s.2)) ∧ St w0 bs g s w' ∧ Same bs w w' :=
  (right_c g s.1 s.2 w0 w h.1 h.2.1).mono fun e w1 ⟨h1, hp⟩ => ⟨h1, h.post (t := s) hp (Nat.le_refl _) (fun h => h)⟩
theorem left_s {w0 w : World} {bs : List Nat} {g : Nat} {s : Rest} (h : St w0 bs g s w) :
    Calls Try.prog 33 #[.pointer (some ⟨g, 0, none⟩)] w fun e w' => e = .returned (.int .i64 (s.1.length : Int)) ∧ St w0 bs g s w' ∧ Same bs w w' :=
  (left_c g s.1 s.2 w0 w h.1 h.2.1).mono fun e w1 ⟨h1, hp⟩ => ⟨h1, h.post (t := s) hp (Nat.le_refl _) (fun h => h)⟩
end Go.Proofs.Ytnhkpolfkmpldaa.PAll

/- IsOp: its contract. -/
namespace Go.Proofs.Ytnhkpolfkmpldaa.PAll
open Go.RowKit Go.Proofs.YtnhkpolfkmpldaaW.PrintWords Go.Proofs.YtnhkpolfkmpldaaW.PrintLast Go.Proofs.YtnhkpolfkmpldaaW.PrintMore
set_option linter.unusedVariables false
set_option linter.unusedSimpArgs false

/-- No op. -/
def opZ : Array Value := opC 0 0 0 0 ⟨#[]⟩ 0 0 0 0 0
theorem size27 : (Try.prog.info? 27).map (·.size) = some 10 := by kernel_rfl
theorem size25 : (Try.prog.info? 25).map (·.size) = some 4 := by kernel_rfl
theorem size9 : (Try.prog.info? 9).map (·.size) = some 1 := by kernel_rfl
theorem size3 : (Try.prog.info? 3).map (·.size) = some 1 := by kernel_rfl
def parcel_IsOp.T5 : Bool × List (List Nat × List Nat) := (true, [([], []), ([0], [0]), ([1], [1]), ([], []), ([3, 1], [3]), ([], []), ([5, 4], [5]), ([], []), ([7, 6], [7]), ([2, 4, 6, 8], [2, 4, 6, 8]), ([], []), ([10, 9, 8, 0, 1, 2, 3, 4, 5, 6, 7, 8, 9, 10], [9, 10])])
def parcel_IsOp.B5 : List Nat := [0, 1, 3, 0, 11, 0, 59, 0, 251, 511, 0, 2047]
theorem parcel_IsOp.tab5 : rtab .any (opsOf Try.f14 5) = parcel_IsOp.T5 := by kernel_rfl
theorem parcel_IsOp.bits5 : waitsOk parcel_IsOp.T5.2 parcel_IsOp.B5 = true := by kernel_rfl
def parcel_IsOp.T7 : Bool × List (List Nat × List Nat) := (true, [([], []), ([0], [0]), ([], []), ([2, 1], [2]), ([3], [3]), ([0, 1], []), ([5, 1, 3, 0, 1], [1, 5]), ([0, 1, 2, 3, 4, 5, 6], []), ([7, 4, 6, 0, 1, 2, 3, 4, 5, 6], [4, 7])])
def parcel_IsOp.B7 : List Nat := [0, 1, 0, 7, 15, 3, 47, 127, 255]
theorem parcel_IsOp.tab7 : rtab .any (opsOf Try.f14 7) = parcel_IsOp.T7 := by kernel_rfl
theorem parcel_IsOp.bits7 : waitsOk parcel_IsOp.T7.2 parcel_IsOp.B7 = true := by kernel_rfl
/-- What an op is, as it is read. -/
abbrev OpT := Int × Int × Int × Int × ByteArray × Int × Int × Int × Int × Int
def opT : OpT → Array Value | (k, key, x, y, v, p0, p1, p2, p3, n) => opC k key x y v p0 p1 p2 p3 n
def noOp : OpT := (0, 0, 0, 0, ⟨#[]⟩, 0, 0, 0, 0, 0)
def parseOp (t0 : Rest) : OpT × Rest :=
  let a := nextN t0 8; let b := nextN a.2 8; let c := nextS b.2; let d := nextS c.2
  let e := nextS d.2; let f := nextS e.2; let g := nextS f.2; let h := nextS g.2
  let v := nextT h.2 16; let n := nextN v.2 8
  ((wrap64 a.1, b.1, c.1, d.1, v.1, e.1, f.1, g.1, h.1, wrap64 n.1), n.2)
def isOpG (g : List Int × Bool) : OpT × Int :=
  if g.2 then (let p := parseOp (g.1, false); if p.2.2 = true ∨ 0 < p.2.1.length then (noOp, 3) else (p.1, 0)) else (noOp, 5)
set_option maxHeartbeats 8000000 in
set_option maxRecDepth 100000 in
theorem isOp_c (A0 : Option Addr) (c0 : Nat) (l0 : List Int) (w : World) (hr0 : Kd.C (Kd.int .u8) w A0 l0.length l0) (hc0 : l0.length ≤ c0) (hl : l0.length < 1000000000) (xs : List Int) (ok : Bool) (hG : seal_Get.f l0 = some (xs, ok)) (hxl : xs.length < 1000000000) (hxb : Bytes xs) (cs : Array Value) (cd : Int) (hcs : cs = opT (isOpG (xs, ok)).1) (hcd : cd = (isOpG (xs, ok)).2) :
    Calls Try.prog 14 #[.slice A0 l0.length c0] w fun e w' => e = .returned (.tuple #[.agg cs, .int .i64 cd]) ∧ Below w.heap.size w w' := by
  have HR := Aside0.mk hr0
  have HL := Aside0.mk hl
  clear hr0 hl
  replace hG := Aside0.mk hG
  replace hcs := Aside0.mk hcs
  replace hcd := Aside0.mk hcd
  go_enter Try.func14, Try.ntmps14
  go_wp2_with fail
  have HB0 := Aside0.mk (below_alloc (Below.refl w.heap.size w) (.cells opZ 27))
  have BK2 := Aside0.mk (show (w.alloc (.cells opZ 27)).heap[w.heap.size]? = some (.cells opZ 27 (0, 0)) by simpa using heap_alloc_new w (.cells opZ 27 (0, 0)))
  have hsz := Aside0.mk (show (w.alloc (.cells opZ 27)).heap.size = w.heap.size + 1 by simp)
  rw [show (#[.int .i64 0, .int .u64 0, .int .u32 0, .int .u32 0, .string ⟨#[]⟩, .int .u32 0, .int .u32 0, .int .u32 0, .int .u32 0, .int .i64 0] : Array Value) = opZ from rfl]
  generalize w.alloc (.cells opZ 27) = wa at BK2 HB0 hsz ⊢
  refine (open_c A0 c0 l0 wa (Kd.C_below HR.out HB0.out) hc0 HL.out xs ok hG.out hxl).mono ?_
  rintro e w1 ⟨g, rfl, hg, hR1, hb1⟩
  have HS : Aside0 (St w [w.heap.size] g (xs, false) w1) := ⟨hR1, below_step HB0.out hb1, by have := hsz.out; omega, hxl, hxb, fun b hb => by
    rw [List.mem_singleton.1 hb]
    have := hsz.out
    have := hb1.size
    omega⟩
  replace BK2 := Aside0.mk (blk_below BK2.out hb1)
  clear hR1 hb1 hg hsz HB0
  have hw0 : Aside0 (w.heap.size ≤ w.heap.size) := ⟨Nat.le_refl _⟩
  cases ok with
  | false =>
    have e0 : Aside0 (cs = opZ ∧ cd = 5) := ⟨by rw [hcs.out, hcd.out]; exact ⟨rfl, rfl⟩⟩
    have HBf := Aside0.mk (fun W (h : Below w1.heap.size w1 W) => blk_below BK2.out h)
    go_wp2_with (first | ((with_reducible refine gate_ (.store 27 (.tmp 2) (.tmp 15)) rfl ?_); refine wpList_seg rfl 27 (.tmp 2) (.tmp 15) rfl rfl w.heap.size 0 rfl (.agg opZ) rfl 27 opZ opZ (HBf.out _ (below_alloc (Below.refl _ _) _)) size27 (by decide) (by simp [Value.cells, Value.oneCell', opZ, opC]) rfl ?_; intro wz hw hz))
    refine bodyPost_ret (results_cell_tmp Try.results14 _ _ w.heap.size 27 opZ (0, 0) _ rfl hz Try.underlying27 rfl size27) rfl ⟨?_, hw.below (below_alloc HS.out.below _) (Nat.le_refl _)⟩
    rw [e0.out.1, e0.out.2]
    rfl
  | true =>
    go_wp2_with fail
    have BK4 := Aside0.mk (heap_alloc_new w1 (.cells #[.pointer (some ⟨g, 0, none⟩)] 63 (0, 0)))
    have hb := below_alloc (Below.refl w1.heap.size w1) (.cells #[.pointer (some ⟨g, 0, none⟩)] 63 (0, 0))
    replace BK2 := Aside0.mk (blk_below BK2.out hb)
    have hgl := Aside0.mk HS.out.1.lt
    replace HS : Aside0 (St w [w1.heap.size, w.heap.size] g (xs, false) _) := ⟨(HS.out.keep hb).1.more (by have := hgl.out; omega) (by simp) (HS.out.below.size)⟩
    clear hb hgl
    generalize w1.alloc (.cells #[.pointer (some ⟨g, 0, none⟩)] 63 (0, 0)) = w2 at HS BK2 BK4 ⊢
    obtain ⟨k, t1, e1⟩ : ∃ k t, nextN (xs, false) 8 = (k, t) := ⟨_, _, rfl⟩
    obtain ⟨key, t2, e2⟩ : ∃ k t, nextN t1 8 = (k, t) := ⟨_, _, rfl⟩
    obtain ⟨x, t3, e3⟩ : ∃ k t, nextS t2 = (k, t) := ⟨_, _, rfl⟩
    obtain ⟨y, t4, e4⟩ : ∃ k t, nextS t3 = (k, t) := ⟨_, _, rfl⟩
    obtain ⟨p0, t5, e5⟩ : ∃ k t, nextS t4 = (k, t) := ⟨_, _, rfl⟩
    obtain ⟨p1, t6, e6⟩ : ∃ k t, nextS t5 = (k, t) := ⟨_, _, rfl⟩
    obtain ⟨p2, t7, e7⟩ : ∃ k t, nextS t6 = (k, t) := ⟨_, _, rfl⟩
    obtain ⟨p3, t8, e8⟩ : ∃ k t, nextS t7 = (k, t) := ⟨_, _, rfl⟩
    obtain ⟨v, t9, e9⟩ : ∃ k t, nextT t8 16 = (k, t) := ⟨_, _, rfl⟩
    obtain ⟨n, t10, e10⟩ : ∃ k t, nextN t9 8 = (k, t) := ⟨_, _, rfl⟩
    have hP : parseOp (xs, false) = ((wrap64 k, key, x, y, v, p0, p1, p2, p3, wrap64 n), t10) := by
      simp only [parseOp, e1, e2, e3, e4, e5, e6, e7, e8, e9, e10]
    have hF : Aside0 ((cs, cd) = if t10.2 = true ∨ 0 < t10.1.length then (opZ, 3) else (opC (wrap64 k) key x y v p0 p1 p2 p3 (wrap64 n), 0)) := ⟨by
      rw [hcs.out, hcd.out, isOpG, if_pos rfl]
      simp only [hP]
      split <;> rfl⟩
    clear hP hcs hcd
    replace e1 := Aside0.mk e1
    replace e2 := Aside0.mk e2
    replace e3 := Aside0.mk e3
    replace e4 := Aside0.mk e4
    replace e5 := Aside0.mk e5
    replace e6 := Aside0.mk e6
    replace e7 := Aside0.mk e7
    replace e8 := Aside0.mk e8
    replace e9 := Aside0.mk e9
    replace e10 := Aside0.mk e10
    have hd := HS.out.keep (below_drew1 (Below.refl _ _))
    replace BK2 := Aside0.mk ((hd.2 _ (by simp)).trans BK2.out)
    replace BK4 := Aside0.mk ((hd.2 _ (by simp)).trans BK4.out)
    replace HS := Aside0.mk hd.1
    clear hd
    refine start_ (n := 12) (S := fun w' => w'.cell? ⟨w1.heap.size, 0, none⟩ = some (.pointer (some ⟨g, 0, none⟩))) (ds := []) #[false, false, false, false, false, false, false, false, false, false, false, false] (by kernel_rfl) rfl rfl ((blk_cell BK4.out 0).trans rfl) (fun hHeld => ?_)
    refine with_tabW parcel_IsOp.tab5 parcel_IsOp.bits5 (fun HT_ HW_ => ?_)
    generalize World.drew w2 = wd at HS BK2 BK4 hHeld ⊢
    refine pure_ (i := 5) (N := some 22) (v := ?_) (a' := ?_) #[false, false, false, false, false, true, false, false, false, false, false, false] rfl rfl (any_of HT_.out (by kernel_rfl)) (fun _ _ _ h => h) (Or.inl ⟨by rfl, ?_⟩) ?_ ?_
    rotate_left
    · intro w'
      go_simp
      with_reducible rfl
    rotate_left
    · simp only [Act.put, List.setIfInBounds_toArray, List.set_cons_zero, List.set_cons_succ, i64_w, i32_w]
      rfl
    refine pure_ (i := 7) (N := some 24) (v := ?_) (a' := ?_) #[false, false, false, false, false, true, false, true, false, false, false, false] rfl rfl (any_of HT_.out (by kernel_rfl)) (fun _ _ _ h => h) (Or.inl ⟨by rfl, ?_⟩) ?_ ?_
    rotate_left
    · intro w'
      go_simp
      with_reducible rfl
    rotate_left
    · simp only [Act.put, List.setIfInBounds_toArray, List.set_cons_zero, List.set_cons_succ, i64_w, i32_w]
      rfl
    refine take_ (i := 0) (N := some 17) (v := ?_) (a' := ?_) #[true, false, false, false, false, true, false, true, false, false, false, false] rfl rfl (take_ofW HT_.out HW_.out (by kernel_rfl)) (fun _ _ _ h => h) (Or.inl ⟨by rfl, ?_⟩) hHeld ?_ ?_
    rotate_left
    · intro w' s0
      go_simp
      with_reducible rfl
    rotate_left
    · simp only [Act.put, List.setIfInBounds_toArray, List.set_cons_zero, List.set_cons_succ, i64_w, i32_w]
      rfl
    refine take_ (i := 3) (N := some 20) (v := ?_) (a' := ?_) #[true, false, false, true, false, true, false, true, false, false, false, false] rfl rfl (take_ofW HT_.out HW_.out (by kernel_rfl)) (fun _ _ _ h => h) (Or.inl ⟨by rfl, ?_⟩) hHeld ?_ ?_
    rotate_left
    · intro w' s0
      go_simp
      with_reducible rfl
    rotate_left
    · simp only [Act.put, List.setIfInBounds_toArray, List.set_cons_zero, List.set_cons_succ, i64_w, i32_w]
      rfl
    refine join_ (σ := Nat) 1 #[true, true, true, true, true, true, true, true, true, true, true, false] (fun s => [(18, .int .u64 k), (19, .int .i64 (wrap64 k)), (21, .int .u64 key), (23, .int .u32 x), (25, .int .u32 y), (26, .agg #[.int .i64 (wrap64 k), .int .u64 key, .int .u32 x, .int .u32 y, .string ⟨#[]⟩, .int .u32 0, .int .u32 0, .int .u32 0, .int .u32 0, .int .i64 0]), (7, .pointer (some ⟨s, 0, none⟩))]) (fun s w' => (g < s ∧ w1.heap.size < s) ∧ St w (s :: [w1.heap.size, w.heap.size]) g t4 w' ∧ w'.heap[w.heap.size]? = some (.cells opZ 27 (0, 0)) ∧ w'.heap[w1.heap.size]? = some (.cells #[.pointer (some ⟨g, 0, none⟩)] 63 (0, 0)) ∧ w'.heap[s]? = some (.cells opZ 27 (0, 0))) ?_ ?_
    rotate_left
    · intro hCont
      refine two_ (i := 1) (j := 10) (Ni := some 18) (Nj := some 7) #[true, true, false, true, false, true, false, true, false, false, false, false] #[true, false, false, true, false, true, false, true, false, false, true, false] rfl rfl rfl rfl (two_of HT_.out (by kernel_rfl)) (by decide) (by decide) (fun K hK => ?_) (fun K hK => ?_)
      · skip
        refine goes_ Try.func30 (by kernel_rfl) rfl #[.pointer (some ⟨g, 0, none⟩), .int .i64 8] (by rfl) rfl rfl (by simp only [List.map_toArray, List.map_cons, List.map_nil]; rfl) ?_
        with_reducible refine (num_s e1.out HS.out).mono ?_
        rintro e wN ⟨rfl, hs⟩
        refine ⟨_, rfl, ?_⟩
        have HS_ := Aside0.mk hs.1
        have BK2_ := Aside0.mk ((hs.2 _ (by simp)).trans BK2.out)
        have BK4_ := Aside0.mk ((hs.2 _ (by simp)).trans BK4.out)
        clear hs HS BK2 BK4
        have HS := HS_
        have BK2 := BK2_
        have BK4 := BK4_
        clear HS_ BK2_ BK4_
        refine hK.out _ _ ((blk_cell BK4.out 0).trans rfl) (fun hHeld => ?_)
        clear hK K
        refine norm_ (a' := ?_) ?_ ?_
        rotate_left
        · show Act.put _ (some 18) _ = _
          simp only [Act.put, List.setIfInBounds_toArray, List.set_cons_zero, List.set_cons_succ, i64_w, i32_w]
          rfl
        refine pure_ (i := 2) (N := some 19) (v := ?_) (a' := ?_) #[true, true, true, true, false, true, false, true, false, false, false, false] rfl rfl (any_of HT_.out (by kernel_rfl)) (fun _ _ _ h => h) (Or.inl ⟨by rfl, ?_⟩) ?_ ?_
        rotate_left
        · intro w'
          go_simp
          with_reducible rfl
        rotate_left
        · simp only [Act.put, List.setIfInBounds_toArray, List.set_cons_zero, List.set_cons_succ, i64_w, i32_w]
          rfl
        refine two_ (i := 4) (j := 10) (Ni := some 21) (Nj := some 7) #[true, true, true, true, true, true, false, true, false, false, false, false] #[true, true, true, true, false, true, false, true, false, false, true, false] rfl rfl rfl rfl (two_of HT_.out (by kernel_rfl)) (by decide) (by decide) (fun K hK => ?_) (fun K hK => ?_)
        · skip
          refine goes_ Try.func30 (by kernel_rfl) rfl #[.pointer (some ⟨g, 0, none⟩), .int .i64 8] (by rfl) rfl rfl (by simp only [List.map_toArray, List.map_cons, List.map_nil]; rfl) ?_
          with_reducible refine (num_s e2.out HS.out).mono ?_
          rintro e wN ⟨rfl, hs⟩
          refine ⟨_, rfl, ?_⟩
          have HS_ := Aside0.mk hs.1
          have BK2_ := Aside0.mk ((hs.2 _ (by simp)).trans BK2.out)
          have BK4_ := Aside0.mk ((hs.2 _ (by simp)).trans BK4.out)
          clear hs HS BK2 BK4
          have HS := HS_
          have BK2 := BK2_
          have BK4 := BK4_
          clear HS_ BK2_ BK4_
          refine hK.out _ _ ((blk_cell BK4.out 0).trans rfl) (fun hHeld => ?_)
          clear hK K
          refine norm_ (a' := ?_) ?_ ?_
          rotate_left
          · show Act.put _ (some 21) _ = _
            simp only [Act.put, List.setIfInBounds_toArray, List.set_cons_zero, List.set_cons_succ, i64_w, i32_w]
            rfl
          refine two_ (i := 6) (j := 10) (Ni := some 23) (Nj := some 7) #[true, true, true, true, true, true, true, true, false, false, false, false] #[true, true, true, true, true, true, false, true, false, false, true, false] rfl rfl rfl rfl (two_of HT_.out (by kernel_rfl)) (by decide) (by decide) (fun K hK => ?_) (fun K hK => ?_)
          · skip
            refine goesC_ (f := 29) (cap := #[.pointer (some ⟨w1.heap.size, 0, none⟩)]) Try.func29 (by kernel_rfl) rfl (by rfl) rfl rfl (by rfl) ?_
            with_reducible refine (small_s e3.out HS.out BK4.out).mono ?_
            rintro e wN ⟨rfl, hs⟩
            refine ⟨_, rfl, ?_⟩
            have HS_ := Aside0.mk hs.1
            have BK2_ := Aside0.mk ((hs.2 _ (by simp)).trans BK2.out)
            have BK4_ := Aside0.mk ((hs.2 _ (by simp)).trans BK4.out)
            clear hs HS BK2 BK4
            have HS := HS_
            have BK2 := BK2_
            have BK4 := BK4_
            clear HS_ BK2_ BK4_
            refine hK.out _ _ ((blk_cell BK4.out 0).trans rfl) (fun hHeld => ?_)
            clear hK K
            refine norm_ (a' := ?_) ?_ ?_
            rotate_left
            · show Act.put _ (some 23) _ = _
              simp only [Act.put, List.setIfInBounds_toArray, List.set_cons_zero, List.set_cons_succ, i64_w, i32_w]
              rfl
            refine two_ (i := 8) (j := 10) (Ni := some 25) (Nj := some 7) #[true, true, true, true, true, true, true, true, true, false, false, false] #[true, true, true, true, true, true, true, true, false, false, true, false] rfl rfl rfl rfl (two_of HT_.out (by kernel_rfl)) (by decide) (by decide) (fun K hK => ?_) (fun K hK => ?_)
            · skip
              refine goesC_ (f := 29) (cap := #[.pointer (some ⟨w1.heap.size, 0, none⟩)]) Try.func29 (by kernel_rfl) rfl (by rfl) rfl rfl (by rfl) ?_
              with_reducible refine (small_s e4.out HS.out BK4.out).mono ?_
              rintro e wN ⟨rfl, hs⟩
              refine ⟨_, rfl, ?_⟩
              have HS_ := Aside0.mk hs.1
              have BK2_ := Aside0.mk ((hs.2 _ (by simp)).trans BK2.out)
              have BK4_ := Aside0.mk ((hs.2 _ (by simp)).trans BK4.out)
              clear hs HS BK2 BK4
              have HS := HS_
              have BK2 := BK2_
              have BK4 := BK4_
              clear HS_ BK2_ BK4_
              refine hK.out _ _ ((blk_cell BK4.out 0).trans rfl) (fun hHeld => ?_)
              clear hK K
              refine norm_ (a' := ?_) ?_ ?_
              rotate_left
              · show Act.put _ (some 25) _ = _
                simp only [Act.put, List.setIfInBounds_toArray, List.set_cons_zero, List.set_cons_succ, i64_w, i32_w]
                rfl
              refine pure_ (i := 9) (N := some 26) (v := ?_) (a' := ?_) #[true, true, true, true, true, true, true, true, true, true, false, false] rfl rfl (any_of HT_.out (by kernel_rfl)) (fun _ _ _ h => h) (Or.inl ⟨by rfl, ?_⟩) ?_ ?_
              rotate_left
              · intro w'
                go_simp
                with_reducible rfl
              rotate_left
              · simp only [Act.put, List.setIfInBounds_toArray, List.set_cons_zero, List.set_cons_succ, i64_w, i32_w]
                rfl
              refine one_ (i := 10) (N := some 7) #[true, true, true, true, true, true, true, true, true, true, true, false] rfl rfl (one_of HT_.out (by kernel_rfl)) (by decide) (fun K hK => ?_)
              refine step_alloc (ty := 27) (cells := opZ) (by rfl) rfl (by go_simp; (try constructor) <;> rfl) ?_
              intro wN gs hgs BKs_ hb hz
              have hs := HS.out.keep hb
              have hgg := Aside0.mk HS.out.1.lt
              have BKs := Aside0.mk BKs_
              have HG : Aside0 (g < gs ∧ w1.heap.size < gs) := ⟨by have := hgg.out; have := HS.out.lt (b := w1.heap.size) (by simp); omega⟩
              clear BKs_ hb
              have HS_ := Aside0.mk hs.1
              have BK2_ := Aside0.mk ((hs.2 _ (by simp)).trans BK2.out)
              have BK4_ := Aside0.mk ((hs.2 _ (by simp)).trans BK4.out)
              clear hs HS BK2 BK4
              have HS := HS_
              have BK2 := BK2_
              have BK4 := BK4_
              clear HS_ BK2_ BK4_
              replace HS : Aside0 (St w (gs :: [w1.heap.size, w.heap.size]) g _ wN) := ⟨HS.out.more (by have := HG.out; omega) (by rw [hz]; exact Nat.lt_succ_self _) (by have := HS.out.2.2.1; have := HG.out; omega)⟩
              clear hz hgs hgg
              refine hK.out _ _ ((blk_cell BK4.out 0).trans rfl) (fun hHeld => ?_)
              clear hK K
              refine norm_ (a' := ?_) ?_ ?_
              rotate_left
              · show Act.put _ (some 7) _ = _
                simp only [Act.put, List.setIfInBounds_toArray, List.set_cons_zero, List.set_cons_succ, i64_w, i32_w]
                rfl
              exact norm_ (by simp only [putAll, Act.put, List.setIfInBounds_toArray, List.set_cons_zero, List.set_cons_succ]) (hCont gs _ ⟨HG.out, HS.out, BK2.out, BK4.out, BKs.out⟩)
            · skip
              refine step_alloc (ty := 27) (cells := opZ) (by rfl) rfl (by go_simp; (try constructor) <;> rfl) ?_
              intro wN gs hgs BKs_ hb hz
              have hs := HS.out.keep hb
              have hgg := Aside0.mk HS.out.1.lt
              have BKs := Aside0.mk BKs_
              have HG : Aside0 (g < gs ∧ w1.heap.size < gs) := ⟨by have := hgg.out; have := HS.out.lt (b := w1.heap.size) (by simp); omega⟩
              clear BKs_ hb
              have HS_ := Aside0.mk hs.1
              have BK2_ := Aside0.mk ((hs.2 _ (by simp)).trans BK2.out)
              have BK4_ := Aside0.mk ((hs.2 _ (by simp)).trans BK4.out)
              clear hs HS BK2 BK4
              have HS := HS_
              have BK2 := BK2_
              have BK4 := BK4_
              clear HS_ BK2_ BK4_
              replace HS : Aside0 (St w (gs :: [w1.heap.size, w.heap.size]) g _ wN) := ⟨HS.out.more (by have := HG.out; omega) (by rw [hz]; exact Nat.lt_succ_self _) (by have := HS.out.2.2.1; have := HG.out; omega)⟩
              clear hz hgs hgg
              refine hK.out _ _ ((blk_cell BK4.out 0).trans rfl) (fun hHeld => ?_)
              clear hK K
              refine norm_ (a' := ?_) ?_ ?_
              rotate_left
              · show Act.put _ (some 7) _ = _
                simp only [Act.put, List.setIfInBounds_toArray, List.set_cons_zero, List.set_cons_succ, i64_w, i32_w]
                rfl
              refine one_ (i := 8) (N := some 25) #[true, true, true, true, true, true, true, true, true, false, true, false] rfl rfl (one_of HT_.out (by kernel_rfl)) (by decide) (fun K hK => ?_)
              refine goesC_ (f := 29) (cap := #[.pointer (some ⟨w1.heap.size, 0, none⟩)]) Try.func29 (by kernel_rfl) rfl (by rfl) rfl rfl (by rfl) ?_
              with_reducible refine (small_s e4.out HS.out BK4.out).mono ?_
              rintro e wN ⟨rfl, hs⟩
              refine ⟨_, rfl, ?_⟩
              have HS_ := Aside0.mk hs.1
              have BK2_ := Aside0.mk ((hs.2 _ (by simp)).trans BK2.out)
              have BK4_ := Aside0.mk ((hs.2 _ (by simp)).trans BK4.out)
              have BKs_ := Aside0.mk ((hs.2 _ (by simp)).trans BKs.out)
              clear hs HS BK2 BK4 BKs
              have HS := HS_
              have BK2 := BK2_
              have BK4 := BK4_
              have BKs := BKs_
              clear HS_ BK2_ BK4_ BKs_
              refine hK.out _ _ ((blk_cell BK4.out 0).trans rfl) (fun hHeld => ?_)
              clear hK K
              refine norm_ (a' := ?_) ?_ ?_
              rotate_left
              · show Act.put _ (some 25) _ = _
                simp only [Act.put, List.setIfInBounds_toArray, List.set_cons_zero, List.set_cons_succ, i64_w, i32_w]
                rfl
              refine pure_ (i := 9) (N := some 26) (v := ?_) (a' := ?_) #[true, true, true, true, true, true, true, true, true, true, true, false] rfl rfl (any_of HT_.out (by kernel_rfl)) (fun _ _ _ h => h) (Or.inl ⟨by rfl, ?_⟩) ?_ ?_
              rotate_left
              · intro w'
                go_simp
                with_reducible rfl
              rotate_left
              · simp only [Act.put, List.setIfInBounds_toArray, List.set_cons_zero, List.set_cons_succ, i64_w, i32_w]
                rfl
              exact norm_ (by simp only [putAll, Act.put, List.setIfInBounds_toArray, List.set_cons_zero, List.set_cons_succ]) (hCont gs _ ⟨HG.out, HS.out, BK2.out, BK4.out, BKs.out⟩)
          · skip
            refine step_alloc (ty := 27) (cells := opZ) (by rfl) rfl (by go_simp; (try constructor) <;> rfl) ?_
            intro wN gs hgs BKs_ hb hz
            have hs := HS.out.keep hb
            have hgg := Aside0.mk HS.out.1.lt
            have BKs := Aside0.mk BKs_
            have HG : Aside0 (g < gs ∧ w1.heap.size < gs) := ⟨by have := hgg.out; have := HS.out.lt (b := w1.heap.size) (by simp); omega⟩
            clear BKs_ hb
            have HS_ := Aside0.mk hs.1
            have BK2_ := Aside0.mk ((hs.2 _ (by simp)).trans BK2.out)
            have BK4_ := Aside0.mk ((hs.2 _ (by simp)).trans BK4.out)
            clear hs HS BK2 BK4
            have HS := HS_
            have BK2 := BK2_
            have BK4 := BK4_
            clear HS_ BK2_ BK4_
            replace HS : Aside0 (St w (gs :: [w1.heap.size, w.heap.size]) g _ wN) := ⟨HS.out.more (by have := HG.out; omega) (by rw [hz]; exact Nat.lt_succ_self _) (by have := HS.out.2.2.1; have := HG.out; omega)⟩
            clear hz hgs hgg
            refine hK.out _ _ ((blk_cell BK4.out 0).trans rfl) (fun hHeld => ?_)
            clear hK K
            refine norm_ (a' := ?_) ?_ ?_
            rotate_left
            · show Act.put _ (some 7) _ = _
              simp only [Act.put, List.setIfInBounds_toArray, List.set_cons_zero, List.set_cons_succ, i64_w, i32_w]
              rfl
            refine one_ (i := 6) (N := some 23) #[true, true, true, true, true, true, true, true, false, false, true, false] rfl rfl (one_of HT_.out (by kernel_rfl)) (by decide) (fun K hK => ?_)
            refine goesC_ (f := 29) (cap := #[.pointer (some ⟨w1.heap.size, 0, none⟩)]) Try.func29 (by kernel_rfl) rfl (by rfl) rfl rfl (by rfl) ?_
            with_reducible refine (small_s e3.out HS.out BK4.out).mono ?_
            rintro e wN ⟨rfl, hs⟩
            refine ⟨_, rfl, ?_⟩
            have HS_ := Aside0.mk hs.1
            have BK2_ := Aside0.mk ((hs.2 _ (by simp)).trans BK2.out)
            have BK4_ := Aside0.mk ((hs.2 _ (by simp)).trans BK4.out)
            have BKs_ := Aside0.mk ((hs.2 _ (by simp)).trans BKs.out)
            clear hs HS BK2 BK4 BKs
            have HS := HS_
            have BK2 := BK2_
            have BK4 := BK4_
            have BKs := BKs_
            clear HS_ BK2_ BK4_ BKs_
            refine hK.out _ _ ((blk_cell BK4.out 0).trans rfl) (fun hHeld => ?_)
            clear hK K
            refine norm_ (a' := ?_) ?_ ?_
            rotate_left
            · show Act.put _ (some 23) _ = _
              simp only [Act.put, List.setIfInBounds_toArray, List.set_cons_zero, List.set_cons_succ, i64_w, i32_w]
              rfl
            refine one_ (i := 8) (N := some 25) #[true, true, true, true, true, true, true, true, true, false, true, false] rfl rfl (one_of HT_.out (by kernel_rfl)) (by decide) (fun K hK => ?_)
            refine goesC_ (f := 29) (cap := #[.pointer (some ⟨w1.heap.size, 0, none⟩)]) Try.func29 (by kernel_rfl) rfl (by rfl) rfl rfl (by rfl) ?_
            with_reducible refine (small_s e4.out HS.out BK4.out).mono ?_
            rintro e wN ⟨rfl, hs⟩
            refine ⟨_, rfl, ?_⟩
            have HS_ := Aside0.mk hs.1
            have BK2_ := Aside0.mk ((hs.2 _ (by simp)).trans BK2.out)
            have BK4_ := Aside0.mk ((hs.2 _ (by simp)).trans BK4.out)
            have BKs_ := Aside0.mk ((hs.2 _ (by simp)).trans BKs.out)
            clear hs HS BK2 BK4 BKs
            have HS := HS_
            have BK2 := BK2_
            have BK4 := BK4_
            have BKs := BKs_
            clear HS_ BK2_ BK4_ BKs_
            refine hK.out _ _ ((blk_cell BK4.out 0).trans rfl) (fun hHeld => ?_)
            clear hK K
            refine norm_ (a' := ?_) ?_ ?_
            rotate_left
            · show Act.put _ (some 25) _ = _
              simp only [Act.put, List.setIfInBounds_toArray, List.set_cons_zero, List.set_cons_succ, i64_w, i32_w]
              rfl
            refine pure_ (i := 9) (N := some 26) (v := ?_) (a' := ?_) #[true, true, true, true, true, true, true, true, true, true, true, false] rfl rfl (any_of HT_.out (by kernel_rfl)) (fun _ _ _ h => h) (Or.inl ⟨by rfl, ?_⟩) ?_ ?_
            rotate_left
            · intro w'
              go_simp
              with_reducible rfl
            rotate_left
            · simp only [Act.put, List.setIfInBounds_toArray, List.set_cons_zero, List.set_cons_succ, i64_w, i32_w]
              rfl
            exact norm_ (by simp only [putAll, Act.put, List.setIfInBounds_toArray, List.set_cons_zero, List.set_cons_succ]) (hCont gs _ ⟨HG.out, HS.out, BK2.out, BK4.out, BKs.out⟩)
        · skip
          refine step_alloc (ty := 27) (cells := opZ) (by rfl) rfl (by go_simp; (try constructor) <;> rfl) ?_
          intro wN gs hgs BKs_ hb hz
          have hs := HS.out.keep hb
          have hgg := Aside0.mk HS.out.1.lt
          have BKs := Aside0.mk BKs_
          have HG : Aside0 (g < gs ∧ w1.heap.size < gs) := ⟨by have := hgg.out; have := HS.out.lt (b := w1.heap.size) (by simp); omega⟩
          clear BKs_ hb
          have HS_ := Aside0.mk hs.1
          have BK2_ := Aside0.mk ((hs.2 _ (by simp)).trans BK2.out)
          have BK4_ := Aside0.mk ((hs.2 _ (by simp)).trans BK4.out)
          clear hs HS BK2 BK4
          have HS := HS_
          have BK2 := BK2_
          have BK4 := BK4_
          clear HS_ BK2_ BK4_
          replace HS : Aside0 (St w (gs :: [w1.heap.size, w.heap.size]) g _ wN) := ⟨HS.out.more (by have := HG.out; omega) (by rw [hz]; exact Nat.lt_succ_self _) (by have := HS.out.2.2.1; have := HG.out; omega)⟩
          clear hz hgs hgg
          refine hK.out _ _ ((blk_cell BK4.out 0).trans rfl) (fun hHeld => ?_)
          clear hK K
          refine norm_ (a' := ?_) ?_ ?_
          rotate_left
          · show Act.put _ (some 7) _ = _
            simp only [Act.put, List.setIfInBounds_toArray, List.set_cons_zero, List.set_cons_succ, i64_w, i32_w]
            rfl
          refine one_ (i := 4) (N := some 21) #[true, true, true, true, true, true, false, true, false, false, true, false] rfl rfl (one_of HT_.out (by kernel_rfl)) (by decide) (fun K hK => ?_)
          refine goes_ Try.func30 (by kernel_rfl) rfl #[.pointer (some ⟨g, 0, none⟩), .int .i64 8] (by rfl) rfl rfl (by simp only [List.map_toArray, List.map_cons, List.map_nil]; rfl) ?_
          with_reducible refine (num_s e2.out HS.out).mono ?_
          rintro e wN ⟨rfl, hs⟩
          refine ⟨_, rfl, ?_⟩
          have HS_ := Aside0.mk hs.1
          have BK2_ := Aside0.mk ((hs.2 _ (by simp)).trans BK2.out)
          have BK4_ := Aside0.mk ((hs.2 _ (by simp)).trans BK4.out)
          have BKs_ := Aside0.mk ((hs.2 _ (by simp)).trans BKs.out)
          clear hs HS BK2 BK4 BKs
          have HS := HS_
          have BK2 := BK2_
          have BK4 := BK4_
          have BKs := BKs_
          clear HS_ BK2_ BK4_ BKs_
          refine hK.out _ _ ((blk_cell BK4.out 0).trans rfl) (fun hHeld => ?_)
          clear hK K
          refine norm_ (a' := ?_) ?_ ?_
          rotate_left
          · show Act.put _ (some 21) _ = _
            simp only [Act.put, List.setIfInBounds_toArray, List.set_cons_zero, List.set_cons_succ, i64_w, i32_w]
            rfl
          refine one_ (i := 6) (N := some 23) #[true, true, true, true, true, true, true, true, false, false, true, false] rfl rfl (one_of HT_.out (by kernel_rfl)) (by decide) (fun K hK => ?_)
          refine goesC_ (f := 29) (cap := #[.pointer (some ⟨w1.heap.size, 0, none⟩)]) Try.func29 (by kernel_rfl) rfl (by rfl) rfl rfl (by rfl) ?_
          with_reducible refine (small_s e3.out HS.out BK4.out).mono ?_
          rintro e wN ⟨rfl, hs⟩
          refine ⟨_, rfl, ?_⟩
          have HS_ := Aside0.mk hs.1
          have BK2_ := Aside0.mk ((hs.2 _ (by simp)).trans BK2.out)
          have BK4_ := Aside0.mk ((hs.2 _ (by simp)).trans BK4.out)
          have BKs_ := Aside0.mk ((hs.2 _ (by simp)).trans BKs.out)
          clear hs HS BK2 BK4 BKs
          have HS := HS_
          have BK2 := BK2_
          have BK4 := BK4_
          have BKs := BKs_
          clear HS_ BK2_ BK4_ BKs_
          refine hK.out _ _ ((blk_cell BK4.out 0).trans rfl) (fun hHeld => ?_)
          clear hK K
          refine norm_ (a' := ?_) ?_ ?_
          rotate_left
          · show Act.put _ (some 23) _ = _
            simp only [Act.put, List.setIfInBounds_toArray, List.set_cons_zero, List.set_cons_succ, i64_w, i32_w]
            rfl
          refine one_ (i := 8) (N := some 25) #[true, true, true, true, true, true, true, true, true, false, true, false] rfl rfl (one_of HT_.out (by kernel_rfl)) (by decide) (fun K hK => ?_)
          refine goesC_ (f := 29) (cap := #[.pointer (some ⟨w1.heap.size, 0, none⟩)]) Try.func29 (by kernel_rfl) rfl (by rfl) rfl rfl (by rfl) ?_
          with_reducible refine (small_s e4.out HS.out BK4.out).mono ?_
          rintro e wN ⟨rfl, hs⟩
          refine ⟨_, rfl, ?_⟩
          have HS_ := Aside0.mk hs.1
          have BK2_ := Aside0.mk ((hs.2 _ (by simp)).trans BK2.out)
          have BK4_ := Aside0.mk ((hs.2 _ (by simp)).trans BK4.out)
          have BKs_ := Aside0.mk ((hs.2 _ (by simp)).trans BKs.out)
          clear hs HS BK2 BK4 BKs
          have HS := HS_
          have BK2 := BK2_
          have BK4 := BK4_
          have BKs := BKs_
          clear HS_ BK2_ BK4_ BKs_
          refine hK.out _ _ ((blk_cell BK4.out 0).trans rfl) (fun hHeld => ?_)
          clear hK K
          refine norm_ (a' := ?_) ?_ ?_
          rotate_left
          · show Act.put _ (some 25) _ = _
            simp only [Act.put, List.setIfInBounds_toArray, List.set_cons_zero, List.set_cons_succ, i64_w, i32_w]
            rfl
          refine pure_ (i := 9) (N := some 26) (v := ?_) (a' := ?_) #[true, true, true, true, true, true, true, true, true, true, true, false] rfl rfl (any_of HT_.out (by kernel_rfl)) (fun _ _ _ h => h) (Or.inl ⟨by rfl, ?_⟩) ?_ ?_
          rotate_left
          · intro w'
            go_simp
            with_reducible rfl
          rotate_left
          · simp only [Act.put, List.setIfInBounds_toArray, List.set_cons_zero, List.set_cons_succ, i64_w, i32_w]
            rfl
          exact norm_ (by simp only [putAll, Act.put, List.setIfInBounds_toArray, List.set_cons_zero, List.set_cons_succ]) (hCont gs _ ⟨HG.out, HS.out, BK2.out, BK4.out, BKs.out⟩)
      · skip
        refine step_alloc (ty := 27) (cells := opZ) (by rfl) rfl (by go_simp; (try constructor) <;> rfl) ?_
        intro wN gs hgs BKs_ hb hz
        have hs := HS.out.keep hb
        have hgg := Aside0.mk HS.out.1.lt
        have BKs := Aside0.mk BKs_
        have HG : Aside0 (g < gs ∧ w1.heap.size < gs) := ⟨by have := hgg.out; have := HS.out.lt (b := w1.heap.size) (by simp); omega⟩
        clear BKs_ hb
        have HS_ := Aside0.mk hs.1
        have BK2_ := Aside0.mk ((hs.2 _ (by simp)).trans BK2.out)
        have BK4_ := Aside0.mk ((hs.2 _ (by simp)).trans BK4.out)
        clear hs HS BK2 BK4
        have HS := HS_
        have BK2 := BK2_
        have BK4 := BK4_
        clear HS_ BK2_ BK4_
        replace HS : Aside0 (St w (gs :: [w1.heap.size, w.heap.size]) g _ wN) := ⟨HS.out.more (by have := HG.out; omega) (by rw [hz]; exact Nat.lt_succ_self _) (by have := HS.out.2.2.1; have := HG.out; omega)⟩
        clear hz hgs hgg
        refine hK.out _ _ ((blk_cell BK4.out 0).trans rfl) (fun hHeld => ?_)
        clear hK K
        refine norm_ (a' := ?_) ?_ ?_
        rotate_left
        · show Act.put _ (some 7) _ = _
          simp only [Act.put, List.setIfInBounds_toArray, List.set_cons_zero, List.set_cons_succ, i64_w, i32_w]
          rfl
        refine one_ (i := 1) (N := some 18) #[true, true, false, true, false, true, false, true, false, false, true, false] rfl rfl (one_of HT_.out (by kernel_rfl)) (by decide) (fun K hK => ?_)
        refine goes_ Try.func30 (by kernel_rfl) rfl #[.pointer (some ⟨g, 0, none⟩), .int .i64 8] (by rfl) rfl rfl (by simp only [List.map_toArray, List.map_cons, List.map_nil]; rfl) ?_
        with_reducible refine (num_s e1.out HS.out).mono ?_
        rintro e wN ⟨rfl, hs⟩
        refine ⟨_, rfl, ?_⟩
        have HS_ := Aside0.mk hs.1
        have BK2_ := Aside0.mk ((hs.2 _ (by simp)).trans BK2.out)
        have BK4_ := Aside0.mk ((hs.2 _ (by simp)).trans BK4.out)
        have BKs_ := Aside0.mk ((hs.2 _ (by simp)).trans BKs.out)
        clear hs HS BK2 BK4 BKs
        have HS := HS_
        have BK2 := BK2_
        have BK4 := BK4_
        have BKs := BKs_
        clear HS_ BK2_ BK4_ BKs_
        refine hK.out _ _ ((blk_cell BK4.out 0).trans rfl) (fun hHeld => ?_)
        clear hK K
        refine norm_ (a' := ?_) ?_ ?_
        rotate_left
        · show Act.put _ (some 18) _ = _
          simp only [Act.put, List.setIfInBounds_toArray, List.set_cons_zero, List.set_cons_succ, i64_w, i32_w]
          rfl
        refine pure_ (i := 2) (N := some 19) (v := ?_) (a' := ?_) #[true, true, true, true, false, true, false, true, false, false, true, false] rfl rfl (any_of HT_.out (by kernel_rfl)) (fun _ _ _ h => h) (Or.inl ⟨by rfl, ?_⟩) ?_ ?_
        rotate_left
        · intro w'
          go_simp
          with_reducible rfl
        rotate_left
        · simp only [Act.put, List.setIfInBounds_toArray, List.set_cons_zero, List.set_cons_succ, i64_w, i32_w]
          rfl
        refine one_ (i := 4) (N := some 21) #[true, true, true, true, true, true, false, true, false, false, true, false] rfl rfl (one_of HT_.out (by kernel_rfl)) (by decide) (fun K hK => ?_)
        refine goes_ Try.func30 (by kernel_rfl) rfl #[.pointer (some ⟨g, 0, none⟩), .int .i64 8] (by rfl) rfl rfl (by simp only [List.map_toArray, List.map_cons, List.map_nil]; rfl) ?_
        with_reducible refine (num_s e2.out HS.out).mono ?_
        rintro e wN ⟨rfl, hs⟩
        refine ⟨_, rfl, ?_⟩
        have HS_ := Aside0.mk hs.1
        have BK2_ := Aside0.mk ((hs.2 _ (by simp)).trans BK2.out)
        have BK4_ := Aside0.mk ((hs.2 _ (by simp)).trans BK4.out)
        have BKs_ := Aside0.mk ((hs.2 _ (by simp)).trans BKs.out)
        clear hs HS BK2 BK4 BKs
        have HS := HS_
        have BK2 := BK2_
        have BK4 := BK4_
        have BKs := BKs_
        clear HS_ BK2_ BK4_ BKs_
        refine hK.out _ _ ((blk_cell BK4.out 0).trans rfl) (fun hHeld => ?_)
        clear hK K
        refine norm_ (a' := ?_) ?_ ?_
        rotate_left
        · show Act.put _ (some 21) _ = _
          simp only [Act.put, List.setIfInBounds_toArray, List.set_cons_zero, List.set_cons_succ, i64_w, i32_w]
          rfl
        refine one_ (i := 6) (N := some 23) #[true, true, true, true, true, true, true, true, false, false, true, false] rfl rfl (one_of HT_.out (by kernel_rfl)) (by decide) (fun K hK => ?_)
        refine goesC_ (f := 29) (cap := #[.pointer (some ⟨w1.heap.size, 0, none⟩)]) Try.func29 (by kernel_rfl) rfl (by rfl) rfl rfl (by rfl) ?_
        with_reducible refine (small_s e3.out HS.out BK4.out).mono ?_
        rintro e wN ⟨rfl, hs⟩
        refine ⟨_, rfl, ?_⟩
        have HS_ := Aside0.mk hs.1
        have BK2_ := Aside0.mk ((hs.2 _ (by simp)).trans BK2.out)
        have BK4_ := Aside0.mk ((hs.2 _ (by simp)).trans BK4.out)
        have BKs_ := Aside0.mk ((hs.2 _ (by simp)).trans BKs.out)
        clear hs HS BK2 BK4 BKs
        have HS := HS_
        have BK2 := BK2_
        have BK4 := BK4_
        have BKs := BKs_
        clear HS_ BK2_ BK4_ BKs_
        refine hK.out _ _ ((blk_cell BK4.out 0).trans rfl) (fun hHeld => ?_)
        clear hK K
        refine norm_ (a' := ?_) ?_ ?_
        rotate_left
        · show Act.put _ (some 23) _ = _
          simp only [Act.put, List.setIfInBounds_toArray, List.set_cons_zero, List.set_cons_succ, i64_w, i32_w]
          rfl
        refine one_ (i := 8) (N := some 25) #[true, true, true, true, true, true, true, true, true, false, true, false] rfl rfl (one_of HT_.out (by kernel_rfl)) (by decide) (fun K hK => ?_)
        refine goesC_ (f := 29) (cap := #[.pointer (some ⟨w1.heap.size, 0, none⟩)]) Try.func29 (by kernel_rfl) rfl (by rfl) rfl rfl (by rfl) ?_
        with_reducible refine (small_s e4.out HS.out BK4.out).mono ?_
        rintro e wN ⟨rfl, hs⟩
        refine ⟨_, rfl, ?_⟩
        have HS_ := Aside0.mk hs.1
        have BK2_ := Aside0.mk ((hs.2 _ (by simp)).trans BK2.out)
        have BK4_ := Aside0.mk ((hs.2 _ (by simp)).trans BK4.out)
        have BKs_ := Aside0.mk ((hs.2 _ (by simp)).trans BKs.out)
        clear hs HS BK2 BK4 BKs
        have HS := HS_
        have BK2 := BK2_
        have BK4 := BK4_
        have BKs := BKs_
        clear HS_ BK2_ BK4_ BKs_
        refine hK.out _ _ ((blk_cell BK4.out 0).trans rfl) (fun hHeld => ?_)
        clear hK K
        refine norm_ (a' := ?_) ?_ ?_
        rotate_left
        · show Act.put _ (some 25) _ = _
          simp only [Act.put, List.setIfInBounds_toArray, List.set_cons_zero, List.set_cons_succ, i64_w, i32_w]
          rfl
        refine pure_ (i := 9) (N := some 26) (v := ?_) (a' := ?_) #[true, true, true, true, true, true, true, true, true, true, true, false] rfl rfl (any_of HT_.out (by kernel_rfl)) (fun _ _ _ h => h) (Or.inl ⟨by rfl, ?_⟩) ?_ ?_
        rotate_left
        · intro w'
          go_simp
          with_reducible rfl
        rotate_left
        · simp only [Act.put, List.setIfInBounds_toArray, List.set_cons_zero, List.set_cons_succ, i64_w, i32_w]
          rfl
        exact norm_ (by simp only [putAll, Act.put, List.setIfInBounds_toArray, List.set_cons_zero, List.set_cons_succ]) (hCont gs _ ⟨HG.out, HS.out, BK2.out, BK4.out, BKs.out⟩)
    clear HS BK2 BK4
    rintro gs wN ⟨hg1, hg2, hg3, hg4, hg5⟩
    have HG := Aside0.mk hg1
    have HS := Aside0.mk hg2
    have BK2 := Aside0.mk hg3
    have BK4 := Aside0.mk hg4
    have BKs := Aside0.mk hg5
    clear hg1 hg2 hg3 hg4 hg5
    have hHeld : wN.cell? ⟨w1.heap.size, 0, none⟩ = some (.pointer (some ⟨g, 0, none⟩)) := (blk_cell BK4.out 0).trans rfl
    refine norm_ (a' := ?_) ?_ ?_
    rotate_left
    · simp only [putAll, Act.put, List.setIfInBounds_toArray, List.set_cons_zero, List.set_cons_succ]
      rfl
    refine one_ (i := 11) (N := none) #[true, true, true, true, true, true, true, true, true, true, true, true] rfl rfl (one_of HT_.out (by kernel_rfl)) (by decide) (fun K hK => ?_)
    refine step_seg (by rfl) 27 (.tmp 7) (.tmp 26) rfl rfl gs 0 rfl (.agg #[.int .i64 (wrap64 k), .int .u64 key, .int .u32 x, .int .u32 y, .string ⟨#[]⟩, .int .u32 0, .int .u32 0, .int .u32 0, .int .u32 0, .int .i64 0]) rfl 27 (opZ) (opC (wrap64 k) key x y ⟨#[]⟩ 0 0 0 0 0) BKs.out size27 (Nat.le_of_ble_eq_true rfl) (by simp [Value.cells, Value.oneCell']) rfl ?_
    intro wN hw BKs_
    have HS_ := Aside0.mk (HS.out.wrote HG.out.1 hw)
    have BK2_ := Aside0.mk (hw.blk (by have := HS.out.2.2.1; have := HG.out; omega) BK2.out)
    have BK4_ := Aside0.mk (hw.blk (by have := HG.out; omega) BK4.out)
    clear HS BK2 BK4 BKs hw
    have HS := HS_
    have BK2 := BK2_
    have BK4 := BK4_
    have BKs := Aside0.mk BKs_
    clear HS_ BK2_ BK4_ BKs_
    refine hK.out _ _ ((blk_cell BK4.out 0).trans rfl) (fun hHeld => ?_)
    clear hK K
    refine done_ (done_of HT_.out (by kernel_rfl)) ?_
    go_wp2_with fail
    refine (small_s e5.out HS.out BK4.out).mono ?_
    rintro e wN ⟨rfl, hs⟩
    have HS_ := Aside0.mk hs.1
    have BK2_ := Aside0.mk ((hs.2 _ (by simp)).trans BK2.out)
    have BK4_ := Aside0.mk ((hs.2 _ (by simp)).trans BK4.out)
    have BKs_ := Aside0.mk ((hs.2 _ (by simp)).trans BKs.out)
    clear hs HS BK2 BK4 BKs
    have HS := HS_
    have BK2 := BK2_
    have BK4 := BK4_
    have BKs := BKs_
    clear HS_ BK2_ BK4_ BKs_
    go_wp2_with fail
    refine (small_s e6.out HS.out BK4.out).mono ?_
    rintro e wN ⟨rfl, hs⟩
    have HS_ := Aside0.mk hs.1
    have BK2_ := Aside0.mk ((hs.2 _ (by simp)).trans BK2.out)
    have BK4_ := Aside0.mk ((hs.2 _ (by simp)).trans BK4.out)
    have BKs_ := Aside0.mk ((hs.2 _ (by simp)).trans BKs.out)
    clear hs HS BK2 BK4 BKs
    have HS := HS_
    have BK2 := BK2_
    have BK4 := BK4_
    have BKs := BKs_
    clear HS_ BK2_ BK4_ BKs_
    go_wp2_with fail
    refine (small_s e7.out HS.out BK4.out).mono ?_
    rintro e wN ⟨rfl, hs⟩
    have HS_ := Aside0.mk hs.1
    have BK2_ := Aside0.mk ((hs.2 _ (by simp)).trans BK2.out)
    have BK4_ := Aside0.mk ((hs.2 _ (by simp)).trans BK4.out)
    have BKs_ := Aside0.mk ((hs.2 _ (by simp)).trans BKs.out)
    clear hs HS BK2 BK4 BKs
    have HS := HS_
    have BK2 := BK2_
    have BK4 := BK4_
    have BKs := BKs_
    clear HS_ BK2_ BK4_ BKs_
    go_wp2_with fail
    refine (small_s e8.out HS.out BK4.out).mono ?_
    rintro e wN ⟨rfl, hs⟩
    have HS_ := Aside0.mk hs.1
    have BK2_ := Aside0.mk ((hs.2 _ (by simp)).trans BK2.out)
    have BK4_ := Aside0.mk ((hs.2 _ (by simp)).trans BK4.out)
    have BKs_ := Aside0.mk ((hs.2 _ (by simp)).trans BKs.out)
    clear hs HS BK2 BK4 BKs
    have HS := HS_
    have BK2 := BK2_
    have BK4 := BK4_
    have BKs := BKs_
    clear HS_ BK2_ BK4_ BKs_
    have H25 := Aside0.mk BKs.out
    go_wp2_with (first | ((with_reducible refine gate_ (.store 25 (.tmp 36) (.tmp 35)) rfl ?_); refine wpList_seg rfl 25 (.tmp 36) (.tmp 35) rfl rfl gs 5 rfl (.agg #[.int .u32 p0, .int .u32 p1, .int .u32 p2, .int .u32 p3]) rfl 27 (opC (wrap64 k) key x y ⟨#[]⟩ 0 0 0 0 0) (opC (wrap64 k) key x y ⟨#[]⟩ p0 p1 p2 p3 0) BKs.out size25 (Nat.le_of_ble_eq_true rfl) (by simp [Value.cells, Value.oneCell']) rfl ?_; intro w2 hw BKs_; have HS_ := Aside0.mk (HS.out.wrote HG.out.1 hw); have BK2_ := Aside0.mk (hw.blk (by have := HS.out.2.2.1; have := HG.out; omega) BK2.out); have BK4_ := Aside0.mk (hw.blk (by have := HG.out; omega) BK4.out); clear HS BK2 BK4 BKs hw; have HS := HS_; have BK2 := BK2_; have BK4 := BK4_; have BKs := Aside0.mk BKs_; clear HS_ BK2_ BK4_ BKs_))
    have hd := HS.out.keep (below_drew1 (Below.refl _ _))
    replace BK2 := Aside0.mk ((hd.2 _ (by simp)).trans BK2.out)
    replace BK4 := Aside0.mk ((hd.2 _ (by simp)).trans BK4.out)
    replace BKs := Aside0.mk ((hd.2 _ (by simp)).trans BKs.out)
    replace HS := Aside0.mk hd.1
    clear hd
    refine start_ (n := 9) (S := fun w' => w'.cell? ⟨w1.heap.size, 0, none⟩ = some (.pointer (some ⟨g, 0, none⟩))) (ds := []) #[false, false, false, false, false, false, false, false, false] (by kernel_rfl) rfl rfl ((blk_cell BK4.out 0).trans rfl) (fun hHeld => ?_)
    refine with_tabW parcel_IsOp.tab7 parcel_IsOp.bits7 (fun HT_ HW_ => ?_)
    generalize World.drew w2 = wd at HS BK2 BK4 BKs hHeld ⊢
    refine take_ (i := 0) (N := some 37) (v := ?_) (a' := ?_) #[true, false, false, false, false, false, false, false, false] rfl rfl (take_ofW HT_.out HW_.out (by kernel_rfl)) (fun _ _ _ h => h) (Or.inl ⟨by rfl, ?_⟩) hHeld ?_ ?_
    rotate_left
    · intro w' s0
      go_simp
      with_reducible rfl
    rotate_left
    · simp only [Act.put, List.setIfInBounds_toArray, List.set_cons_zero, List.set_cons_succ, i64_w, i32_w]
      rfl
    refine take_ (i := 2) (N := some 39) (v := ?_) (a' := ?_) #[true, false, true, false, false, false, false, false, false] rfl rfl (take_ofW HT_.out HW_.out (by kernel_rfl)) (fun _ _ _ h => h) (Or.inl ⟨by rfl, ?_⟩) hHeld ?_ ?_
    rotate_left
    · intro w' s0
      go_simp
      with_reducible rfl
    rotate_left
    · simp only [Act.put, List.setIfInBounds_toArray, List.set_cons_zero, List.set_cons_succ, i64_w, i32_w]
      rfl
    refine one_ (i := 1) (N := some 38) #[true, true, true, false, false, false, false, false, false] rfl rfl (one_of HT_.out (by kernel_rfl)) (by decide) (fun K hK => ?_)
    refine goes_ Try.func31 (by kernel_rfl) rfl #[.pointer (some ⟨g, 0, none⟩), .int .i64 16] (by rfl) rfl rfl (by simp only [List.map_toArray, List.map_cons, List.map_nil]; rfl) ?_
    with_reducible refine (text_s e9.out HS.out).mono ?_
    rintro e wN ⟨rfl, hs⟩
    refine ⟨_, rfl, ?_⟩
    have HS_ := Aside0.mk hs.1
    have BK2_ := Aside0.mk ((hs.2 _ (by simp)).trans BK2.out)
    have BK4_ := Aside0.mk ((hs.2 _ (by simp)).trans BK4.out)
    have BKs_ := Aside0.mk ((hs.2 _ (by simp)).trans BKs.out)
    clear hs HS BK2 BK4 BKs
    have HS := HS_
    have BK2 := BK2_
    have BK4 := BK4_
    have BKs := BKs_
    clear HS_ BK2_ BK4_ BKs_
    refine hK.out _ _ ((blk_cell BK4.out 0).trans rfl) (fun hHeld => ?_)
    clear hK K
    refine norm_ (a' := ?_) ?_ ?_
    rotate_left
    · show Act.put _ (some 38) _ = _
      simp only [Act.put, List.setIfInBounds_toArray, List.set_cons_zero, List.set_cons_succ, i64_w, i32_w]
      rfl
    refine pure_ (i := 5) (N := some 42) (v := ?_) (a' := ?_) #[true, true, true, false, false, true, false, false, false] rfl rfl (any_of HT_.out (by kernel_rfl)) (fun _ _ _ h => h) (Or.inl ⟨by rfl, ?_⟩) ?_ ?_
    rotate_left
    · intro w'
      go_simp
      with_reducible rfl
    rotate_left
    · simp only [Act.put, List.setIfInBounds_toArray, List.set_cons_zero, List.set_cons_succ, i64_w, i32_w]
      rfl
    refine one_ (i := 3) (N := some 40) #[true, true, true, true, false, true, false, false, false] rfl rfl (one_of HT_.out (by kernel_rfl)) (by decide) (fun K hK => ?_)
    refine goes_ Try.func30 (by kernel_rfl) rfl #[.pointer (some ⟨g, 0, none⟩), .int .i64 8] (by rfl) rfl rfl (by simp only [List.map_toArray, List.map_cons, List.map_nil]; rfl) ?_
    with_reducible refine (num_s e10.out HS.out).mono ?_
    rintro e wN ⟨rfl, hs⟩
    refine ⟨_, rfl, ?_⟩
    have HS_ := Aside0.mk hs.1
    have BK2_ := Aside0.mk ((hs.2 _ (by simp)).trans BK2.out)
    have BK4_ := Aside0.mk ((hs.2 _ (by simp)).trans BK4.out)
    have BKs_ := Aside0.mk ((hs.2 _ (by simp)).trans BKs.out)
    clear hs HS BK2 BK4 BKs
    have HS := HS_
    have BK2 := BK2_
    have BK4 := BK4_
    have BKs := BKs_
    clear HS_ BK2_ BK4_ BKs_
    refine hK.out _ _ ((blk_cell BK4.out 0).trans rfl) (fun hHeld => ?_)
    clear hK K
    refine norm_ (a' := ?_) ?_ ?_
    rotate_left
    · show Act.put _ (some 40) _ = _
      simp only [Act.put, List.setIfInBounds_toArray, List.set_cons_zero, List.set_cons_succ, i64_w, i32_w]
      rfl
    refine pure_ (i := 4) (N := some 41) (v := ?_) (a' := ?_) #[true, true, true, true, true, true, false, false, false] rfl rfl (any_of HT_.out (by kernel_rfl)) (fun _ _ _ h => h) (Or.inl ⟨by rfl, ?_⟩) ?_ ?_
    rotate_left
    · intro w'
      go_simp
      with_reducible rfl
    rotate_left
    · simp only [Act.put, List.setIfInBounds_toArray, List.set_cons_zero, List.set_cons_succ, i64_w, i32_w]
      rfl
    refine one_ (i := 6) (N := none) #[true, true, true, true, true, true, true, false, false] rfl rfl (one_of HT_.out (by kernel_rfl)) (by decide) (fun K hK => ?_)
    refine step_seg (by rfl) 9 (.tmp 42) (.tmp 38) rfl rfl gs 4 rfl (.string v) rfl 27 (opC (wrap64 k) key x y ⟨#[]⟩ p0 p1 p2 p3 0) (opC (wrap64 k) key x y v p0 p1 p2 p3 0) BKs.out size9 (Nat.le_of_ble_eq_true rfl) (by simp [Value.cells, Value.oneCell']) rfl ?_
    intro wN hw BKs_
    have HS_ := Aside0.mk (HS.out.wrote HG.out.1 hw)
    have BK2_ := Aside0.mk (hw.blk (by have := HS.out.2.2.1; have := HG.out; omega) BK2.out)
    have BK4_ := Aside0.mk (hw.blk (by have := HG.out; omega) BK4.out)
    clear HS BK2 BK4 BKs hw
    have HS := HS_
    have BK2 := BK2_
    have BK4 := BK4_
    have BKs := Aside0.mk BKs_
    clear HS_ BK2_ BK4_ BKs_
    refine hK.out _ _ ((blk_cell BK4.out 0).trans rfl) (fun hHeld => ?_)
    clear hK K
    refine pure_ (i := 7) (N := some 43) (v := ?_) (a' := ?_) #[true, true, true, true, true, true, true, true, false] rfl rfl (any_of HT_.out (by kernel_rfl)) (fun _ _ _ h => h) (Or.inl ⟨by rfl, ?_⟩) ?_ ?_
    rotate_left
    · intro w'
      go_simp
      with_reducible rfl
    rotate_left
    · simp only [Act.put, List.setIfInBounds_toArray, List.set_cons_zero, List.set_cons_succ, i64_w, i32_w]
      rfl
    refine one_ (i := 8) (N := none) #[true, true, true, true, true, true, true, true, true] rfl rfl (one_of HT_.out (by kernel_rfl)) (by decide) (fun K hK => ?_)
    refine step_seg (by rfl) 3 (.tmp 43) (.tmp 41) rfl rfl gs 9 rfl (.int .i64 (wrap64 n)) rfl 27 (opC (wrap64 k) key x y v p0 p1 p2 p3 0) (opC (wrap64 k) key x y v p0 p1 p2 p3 (wrap64 n)) BKs.out size3 (Nat.le_of_ble_eq_true rfl) (by simp [Value.cells, Value.oneCell']) rfl ?_
    intro wN hw BKs_
    have HS_ := Aside0.mk (HS.out.wrote HG.out.1 hw)
    have BK2_ := Aside0.mk (hw.blk (by have := HS.out.2.2.1; have := HG.out; omega) BK2.out)
    have BK4_ := Aside0.mk (hw.blk (by have := HG.out; omega) BK4.out)
    clear HS BK2 BK4 BKs hw
    have HS := HS_
    have BK2 := BK2_
    have BK4 := BK4_
    have BKs := Aside0.mk BKs_
    clear HS_ BK2_ BK4_ BKs_
    refine hK.out _ _ ((blk_cell BK4.out 0).trans rfl) (fun hHeld => ?_)
    clear hK K
    refine done_ (done_of HT_.out (by kernel_rfl)) ?_
    obtain ⟨zs, bd⟩ := t10
    go_wp2_with fail
    refine (right_s HS.out).mono ?_
    rintro e wN ⟨rfl, hs⟩
    have HS_ := Aside0.mk hs.1
    have BK2_ := Aside0.mk ((hs.2 _ (by simp)).trans BK2.out)
    have BK4_ := Aside0.mk ((hs.2 _ (by simp)).trans BK4.out)
    have BKs_ := Aside0.mk ((hs.2 _ (by simp)).trans BKs.out)
    clear hs HS BK2 BK4 BKs
    have HS := HS_
    have BK2 := BK2_
    have BK4 := BK4_
    have BKs := BKs_
    clear HS_ BK2_ BK4_ BKs_
    cases bd with
    | true =>
      replace hF : Aside0 (cs = opZ ∧ cd = 3) := ⟨by have := hF.out; rw [if_pos (.inl rfl)] at this; exact Prod.mk.inj this⟩
      go_wp2_with (first | ((with_reducible refine gate_ (.store 27 (.tmp 2) (.tmp 52)) rfl ?_); refine wpList_seg rfl 27 (.tmp 2) (.tmp 52) rfl rfl w.heap.size 0 rfl (.agg opZ) rfl 27 opZ opZ BK2.out size27 (by decide) (by simp [Value.cells, Value.oneCell', opZ, opC]) rfl ?_; intro wz hw hz))
      refine bodyPost_ret (results_cell_tmp Try.results14 _ _ w.heap.size 27 opZ (0, 0) _ rfl hz Try.underlying27 rfl size27) rfl ⟨?_, hw.below HS.out.below (Nat.le_refl _)⟩
      rw [hF.out.1, hF.out.2]
      rfl
    | false =>
      have hc4 : World.cell? _ ⟨w1.heap.size, 0, none⟩ = some (.pointer (some ⟨g, 0, none⟩)) := (blk_cell BK4.out 0).trans rfl
      go_wp2_with fail
      refine (left_s HS.out).mono ?_
      rintro e wN ⟨rfl, hs⟩
      have HS_ := Aside0.mk hs.1
      have BK2_ := Aside0.mk ((hs.2 _ (by simp)).trans BK2.out)
      have BK4_ := Aside0.mk ((hs.2 _ (by simp)).trans BK4.out)
      have BKs_ := Aside0.mk ((hs.2 _ (by simp)).trans BKs.out)
      clear hs HS BK2 BK4 BKs
      have HS := HS_
      have BK2 := BK2_
      have BK4 := BK4_
      have BKs := BKs_
      clear HS_ BK2_ BK4_ BKs_
      by_cases hzl : 0 < zs.length
      · have q1 := eq_true (show (0 : Int) < (zs.length : Int) by omega)
        have q1' := eq_true hzl
        replace hF : Aside0 (cs = opZ ∧ cd = 3) := ⟨by have := hF.out; rw [if_pos (.inr hzl)] at this; exact Prod.mk.inj this⟩
        go_wp2_with (first | ((with_reducible refine gate_ (.store 27 (.tmp 2) (.tmp 52)) rfl ?_); refine wpList_seg rfl 27 (.tmp 2) (.tmp 52) rfl rfl w.heap.size 0 rfl (.agg opZ) rfl 27 opZ opZ BK2.out size27 (by decide) (by simp [Value.cells, Value.oneCell', opZ, opC]) rfl ?_; intro wz hw hz))
        refine bodyPost_ret (results_cell_tmp Try.results14 _ _ w.heap.size 27 opZ (0, 0) _ rfl hz Try.underlying27 rfl size27) rfl ⟨?_, hw.below HS.out.below (Nat.le_refl _)⟩
        rw [hF.out.1, hF.out.2]
        rfl
      · have q1 := eq_false (show ¬ (0 : Int) < (zs.length : Int) by omega)
        have q1' := eq_false hzl
        replace hF : Aside0 (cs = opC (wrap64 k) key x y v p0 p1 p2 p3 (wrap64 n) ∧ cd = 0) := ⟨by have := hF.out; rw [if_neg (fun h => h.elim (fun h => by cases h) hzl)] at this; exact Prod.mk.inj this⟩
        go_wp2_with (first | ((with_reducible refine gate_ (.load 27 (.tmp 7)) rfl ?_); refine wpList_load_row rfl 27 (.tmp 7) rfl gs rfl 27 (opC (wrap64 k) key x y v p0 p1 p2 p3 (wrap64 n)) (0, 0) _ BKs.out Try.underlying27 rfl size27 ?_) | ((with_reducible refine gate_ (.store 27 (.tmp 2) (.tmp 53)) rfl ?_); refine wpList_seg rfl 27 (.tmp 2) (.tmp 53) rfl rfl w.heap.size 0 rfl (.agg (opC (wrap64 k) key x y v p0 p1 p2 p3 (wrap64 n))) rfl 27 opZ (opC (wrap64 k) key x y v p0 p1 p2 p3 (wrap64 n)) BK2.out size27 (Nat.le_of_ble_eq_true rfl) (by simp [Value.cells, Value.oneCell', opC]) rfl ?_; intro wz hw hz))
        refine bodyPost_ret (results_cell_tmp Try.results14 _ _ w.heap.size 27 (opC (wrap64 k) key x y v p0 p1 p2 p3 (wrap64 n)) (0, 0) _ rfl hz Try.underlying27 rfl size27) rfl ⟨?_, hw.below HS.out.below (Nat.le_refl _)⟩
        rw [hF.out.1, hF.out.2]
        rfl
end Go.Proofs.Ytnhkpolfkmpldaa.PAll

/- IsAnswer: what is read. -/
namespace Go.Proofs.Ytnhkpolfkmpldaa.PAll
open Go.RowKit Go.Proofs.YtnhkpolfkmpldaaW.PrintWords Go.Proofs.YtnhkpolfkmpldaaW.PrintLast Go.Proofs.YtnhkpolfkmpldaaW.PrintMore
set_option linter.unusedVariables false
set_option linter.unusedSimpArgs false

def Upd (w0 : World) (bs : List Nat) (g : Nat) (t : Rest) (w w' : World) : Prop := St w0 bs g t w' ∧ Same bs w w' ∧ KeepBut w w' g none
theorem St.postk {w0 W W' : World} {bs : List Nat} {g : Nat} {s : Rest} {t : Rest} (h : St w0 bs g s W) (hp : RdPost w0 W g t.1 t.2 W') (hl : t.1.length ≤ s.1.length) (hb : Bytes s.1 → Bytes t.1) : Upd w0 bs g t W W' :=
  ⟨(h.post hp hl hb).1, (h.post hp hl hb).2, rp3 hp⟩
theorem num_k {w0 w : World} {bs : List Nat} {g : Nat} {s t : Rest} {k v : Int} (hv : nextN s k = (v, t)) (h : St w0 bs g s w) :
    Calls Try.prog 30 #[.pointer (some ⟨g, 0, none⟩), .int .i64 k] w fun e w' => e = .returned (.int .u64 v) ∧ Upd w0 bs g t w w' := by
  obtain ⟨rfl, rfl⟩ := Prod.mk.inj hv
  refine (num_c g s.1 s.2 k w0 w h.1 h.2.1 h.2.2.1 (by have := h.2.2.2.1; omega)).mono ?_
  rintro e w1 ⟨rfl, hp⟩
  exact ⟨rfl, h.postk hp takeF_rest.1 takeF_rest.2⟩
theorem text_k {w0 w : World} {bs : List Nat} {g : Nat} {s t : Rest} {k : Int} {v : ByteArray} (hv : nextT s k = (v, t)) (h : St w0 bs g s w) :
    Calls Try.prog 31 #[.pointer (some ⟨g, 0, none⟩), .int .i64 k] w fun e w' => e = .returned (.string v) ∧ Upd w0 bs g t w w' := by
  obtain ⟨rfl, rfl⟩ := Prod.mk.inj hv
  refine (text_c g s.1 s.2 k w0 w h.1 h.2.1 h.2.2.1 (by have := h.2.2.2.1; omega) h.2.2.2.2.1).mono ?_
  rintro e w1 ⟨rfl, hp⟩
  exact ⟨rfl, h.postk hp (by rw [textF_rest]; exact takeF_rest.1) (by rw [textF_rest]; exact takeF_rest.2)⟩
theorem right_k {w0 w : World} {bs : List Nat} {g : Nat} {s : Rest} (h : St w0 bs g s w) :
    Calls Try.prog 32 #[.pointer (some ⟨g, 0, none⟩)] w fun e w' => e = .returned (.bool (!s.2)) ∧ Upd w0 bs g s w w' :=
  (right_c g s.1 s.2 w0 w h.1 h.2.1).mono fun e w1 ⟨h1, hp⟩ => ⟨h1, h.postk (t := s) hp (Nat.le_refl _) (fun h => h)⟩
theorem left_k {w0 w : World} {bs : List Nat} {g : Nat} {s : Rest} (h : St w0 bs g s w) :
    Calls Try.prog 33 #[.pointer (some ⟨g, 0, none⟩)] w fun e w' => e = .returned (.int .i64 (s.1.length : Int)) ∧ Upd w0 bs g s w w' :=
  (left_c g s.1 s.2 w0 w h.1 h.2.1).mono fun e w1 ⟨h1, hp⟩ => ⟨h1, h.postk (t := s) hp (Nat.le_refl _) (fun h => h)⟩
theorem St.grown {w0 W W1 : World} {bs : List Nat} {g : Nat} {s : Rest} {row : Option Nat} (h : St w0 bs g s W) (hg : W.grownBy W1 row) (hrow : ∀ r, row = some r → g < r ∧ ¬ r ∈ bs) (hb : Below w0.heap.size w0 W1) : St w0 bs g s W1 ∧ Same bs W W1 :=
  ⟨⟨h.1.grown hg (fun r hr => (hrow r hr).1), hb, h.2.2.1, h.2.2.2.1, h.2.2.2.2.1, fun x hx => ⟨(h.2.2.2.2.2 x hx).1, Nat.lt_of_lt_of_le (h.2.2.2.2.2 x hx).2.1 hg.size, (h.2.2.2.2.2 x hx).2.2⟩⟩, fun b hb => hg.block b (h.2.2.2.2.2 b hb).2.1 (fun e => (hrow b e.symm).2 hb)⟩
theorem getN_one {c : Int} (h : 0 ≤ c ∧ c < 256) : getN [c] = c := by
  show getL 0 [c] = c
  have e : getL 0 [c] = Go.bits .or .u64 (IntKind.u64.wrap (0 * 256)) (IntKind.u64.wrap c) := rfl
  rw [e, or_byte 0 c h.1 h.2]
  simp only [IntKind.wrap, IntKind.bits, IntKind.signed]
  simp
  omega
theorem nextN_one {s t : Rest} {v : Int} (h : nextN s 1 = (v, t)) (hb : Bytes s.1) : 0 ≤ v ∧ v < 256 := by
  obtain ⟨rfl, rfl⟩ := Prod.mk.inj h
  unfold takeF
  split
  · show 0 ≤ getN [] ∧ getN [] < 256
    exact ⟨by decide, by decide⟩
  · rename_i hn
    cases hs : s.1 with
    | nil => rw [hs] at hn; simp at hn
    | cons c r =>
      have hc := hb c (by rw [hs]; exact List.mem_cons_self)
      have : (c :: r).take (1 : Int).toNat = [c] := rfl
      simp only [this]
      rw [getN_one hc]
      exact hc
def ansC (c : Int) (v : Value) (n : Int) : Array Value := #[.int .i64 c, v, .int .i64 n]
theorem size31 : (Try.prog.info? 31).map (·.size) = some 3 := by kernel_rfl
theorem size29 : (Try.prog.info? 29).map (·.size) = some 1 := by kernel_rfl
/-- The records that are read. -/
def nextR (t : Rest) : S54 × Rest :=
  let a := nextN t 8; let b := nextN a.2 4; let c := nextN b.2 4; let v := nextT c.2 16
  (⟨0, a.1, b.1 % 4294967296, c.1 % 4294967296, v.1, false⟩, v.2)
def recsGo : Nat → Rest → List S54 → List S54 × Rest
  | 0, t, acc => (acc, t)
  | k + 1, t, acc => if t.2 = true then (acc, t) else recsGo k (nextR t).2 (acc ++ [(nextR t).1])
structure AnsT where
  code : Int
  recs : List S54
  n : Int
def noAns : AnsT := ⟨0, [], 0⟩
def parseAns (t0 : Rest) : (AnsT × Int) × Rest :=
  let a := nextN t0 1; let b := nextN a.2 8; let c := nextN b.2 1
  let r := recsGo (wrap64 c.1).toNat c.2 []
  ((⟨wrap64 a.1, r.1, wrap64 b.1⟩, wrap64 c.1), r.2)
def isAnsG (g : List Int × Bool) : AnsT × Int :=
  if g.2 then (let p := parseAns (g.1, false); if p.2.2 = true ∨ 0 < p.2.1.length ∨ 14 < p.1.1.code ∨ p.1.1.n < 0 ∨ 200 < p.1.2 then (noAns, 3) else (p.1.1, 0)) else (noAns, 5)
end Go.Proofs.Ytnhkpolfkmpldaa.PAll

/- IsAnswer: its contract. -/
namespace Go.Proofs.Ytnhkpolfkmpldaa.PAll
open Go.RowKit Go.Proofs.YtnhkpolfkmpldaaW.PrintWords Go.Proofs.YtnhkpolfkmpldaaW.PrintLast Go.Proofs.YtnhkpolfkmpldaaW.PrintMore
set_option linter.unusedVariables false
set_option linter.unusedSimpArgs false

def parcel_IsAnswer.T9 : Bool × List (List Nat × List Nat) := (true, [([], []), ([0], [0]), ([], []), ([2], [2]), ([], []), ([4, 3], [4]), ([5], [5]), ([], []), ([7, 5], [7]), ([8], [8]), ([], []), ([10, 8], [10]), ([3, 6, 9, 11], [3, 6, 9, 11]), ([12], [12]), ([1, 13, 11], [1, 13]), ([0, 1, 2, 3, 4, 5, 6, 7, 8, 9, 10, 11, 12, 13, 14], []), ([15, 14, 14, 0, 1, 2, 3, 4, 5, 6, 7, 8, 9, 10, 11, 12, 13, 14], [14, 15])])
def parcel_IsAnswer.B9 : List Nat := [0, 1, 0, 4, 0, 28, 60, 0, 188, 444, 0, 1468, 4092, 8188, 16383, 32767, 65535]
theorem parcel_IsAnswer.tab9 : rtab .any (opsOf Try.f15 9) = parcel_IsAnswer.T9 := by kernel_rfl
theorem parcel_IsAnswer.bits9 : waitsOk parcel_IsAnswer.T9.2 parcel_IsAnswer.B9 = true := by kernel_rfl
theorem info54 : (Try.prog.info? 54).map (fun i => (i.zero, i.size, i.bytes)) = some (some (.agg #[.int .u64 0, .int .u64 0, .int .u32 0, .int .u32 0, .string ⟨#[]⟩, .bool false]), 6, 48) := by kernel_rfl
set_option maxHeartbeats 8000000 in
set_option maxRecDepth 100000 in
theorem isAns_c (A0 : Option Addr) (c0 : Nat) (l0 : List Int) (w : World) (hr0 : Kd.C (Kd.int .u8) w A0 l0.length l0) (hc0 : l0.length ≤ c0) (hl : l0.length < 1000000000) (xs : List Int) (ok : Bool) (hG : seal_Get.f l0 = some (xs, ok)) (hxl : xs.length < 1000000000) (hxb : Bytes xs) (an : AnsT) (rc : Int) (hF : (an, rc) = isAnsG (xs, ok)) :
    Calls Try.prog 15 #[.slice A0 l0.length c0] w fun e w' => ∃ A c, e = .returned (.tuple #[.agg (ansC an.code (.slice A an.recs.length c) an.n), .int .i64 rc]) ∧ an.recs.length ≤ c ∧ Kd.C k54 w' A an.recs.length an.recs ∧ Below w.heap.size w w' := by
  have HR := Aside0.mk hr0
  have HL := Aside0.mk hl
  clear hr0 hl
  replace hG := Aside0.mk hG
  replace hF := Aside0.mk hF
  go_enter Try.func15, Try.ntmps15
  go_wp2_with fail
  have HB0 := Aside0.mk (below_alloc (Below.refl w.heap.size w) (.cells (ansC 0 (.slice none 0 0) 0) 31))
  have BK2 := Aside0.mk (show (w.alloc (.cells (ansC 0 (.slice none 0 0) 0) 31)).heap[w.heap.size]? = some (.cells (ansC 0 (.slice none 0 0) 0) 31 (0, 0)) by simpa using heap_alloc_new w (.cells (ansC 0 (.slice none 0 0) 0) 31 (0, 0)))
  have hsz := Aside0.mk (show (w.alloc (.cells (ansC 0 (.slice none 0 0) 0) 31)).heap.size = w.heap.size + 1 by simp)
  rw [show (#[.int .i64 0, .slice none 0 0, .int .i64 0] : Array Value) = ansC 0 (.slice none 0 0) 0 from rfl]
  generalize w.alloc (.cells (ansC 0 (.slice none 0 0) 0) 31) = wa at BK2 HB0 hsz ⊢
  refine (open_c A0 c0 l0 wa (Kd.C_below HR.out HB0.out) hc0 HL.out xs ok hG.out hxl).mono ?_
  rintro e w1 ⟨g, rfl, hg, hR1, hb1⟩
  have HS : Aside0 (St w [w.heap.size] g (xs, false) w1) := ⟨hR1, below_step HB0.out hb1, by have := hsz.out; omega, hxl, hxb, fun b hb => by
    rw [List.mem_singleton.1 hb]
    have := hsz.out
    have := hb1.size
    omega⟩
  replace BK2 := Aside0.mk (blk_below BK2.out hb1)
  clear hR1 hb1 hg hsz HB0
  cases ok with
  | false =>
    have e0 : Aside0 (an = noAns ∧ rc = 5) := ⟨Prod.mk.inj hF.out⟩
    go_wp2_with (first | ((with_reducible refine gate_ (.store 31 (.tmp 2) (.tmp 16)) rfl ?_); refine wpList_seg rfl 31 (.tmp 2) (.tmp 16) rfl rfl w.heap.size 0 rfl (.agg (ansC 0 (.slice none 0 0) 0)) rfl 31 (ansC 0 (.slice none 0 0) 0) (ansC 0 (.slice none 0 0) 0) BK2.out size31 (Nat.le_of_ble_eq_true rfl) (by simp [Value.cells, Value.oneCell', ansC]) rfl ?_; intro wz hw hz))
    refine bodyPost_ret (results_cell_tmp Try.results15 _ _ w.heap.size 31 (ansC 0 (.slice none 0 0) 0) (0, 0) _ rfl hz Try.underlying31 rfl size31) rfl ?_
    rw [e0.out.1, e0.out.2]
    exact ⟨none, 0, rfl, Nat.le_refl _, Kd.C_nil _ _, hw.below HS.out.below (Nat.le_refl _)⟩
  | true =>
    obtain ⟨cd, t1, e1⟩ : ∃ k t, nextN (xs, false) 1 = (k, t) := ⟨_, _, rfl⟩
    obtain ⟨nn, t2, e2⟩ : ∃ k t, nextN t1 8 = (k, t) := ⟨_, _, rfl⟩
    obtain ⟨m, t3, e3⟩ : ∃ k t, nextN t2 1 = (k, t) := ⟨_, _, rfl⟩
    obtain ⟨RS, hRS⟩ : ∃ R, R = recsGo (wrap64 m).toNat t3 [] := ⟨_, rfl⟩
    have hP : parseAns (xs, false) = ((⟨wrap64 cd, RS.1, wrap64 nn⟩, wrap64 m), RS.2) := by
      simp only [parseAns, e1, e2, e3, hRS]
    replace hF : Aside0 ((an, rc) = if RS.2.2 = true ∨ 0 < RS.2.1.length ∨ 14 < wrap64 cd ∨ wrap64 nn < 0 ∨ 200 < wrap64 m then (noAns, 3) else (⟨wrap64 cd, RS.1, wrap64 nn⟩, 0)) := ⟨by
      rw [hF.out, isAnsG, if_pos rfl]
      simp only [hP]⟩
    clear hP
    replace hRS := Aside0.mk hRS
    replace e1 := Aside0.mk e1
    replace e2 := Aside0.mk e2
    replace e3 := Aside0.mk e3
    go_wp2_with fail
    refine (num_k e1.out HS.out).mono ?_
    rintro e wN ⟨rfl, hs⟩
    have HS_ := Aside0.mk hs.1
    have BK2_ := Aside0.mk ((hs.2.1 _ (by simp)).trans BK2.out)
    clear hs HS BK2
    have HS := HS_
    have BK2 := BK2_
    clear HS_ BK2_
    go_wp2_with fail
    refine (num_k e2.out HS.out).mono ?_
    rintro e wN ⟨rfl, hs⟩
    have HS_ := Aside0.mk hs.1
    have BK2_ := Aside0.mk ((hs.2.1 _ (by simp)).trans BK2.out)
    clear hs HS BK2
    have HS := HS_
    have BK2 := BK2_
    clear HS_ BK2_
    go_wp2_with fail
    have BK6 := Aside0.mk (heap_alloc_new wN (.cells (ansC (wrap64 cd) (.slice none 0 0) (wrap64 nn)) 31 (0, 0)))
    rw [show (#[.int .i64 (wrap64 cd), .slice none 0 0, .int .i64 (wrap64 nn)] : Array Value) = ansC (wrap64 cd) (.slice none 0 0) (wrap64 nn) from rfl]
    have hb := below_alloc (Below.refl wN.heap.size wN) (.cells (ansC (wrap64 cd) (.slice none 0 0) (wrap64 nn)) 31 (0, 0))
    replace BK2 := Aside0.mk (blk_below BK2.out hb)
    have hgl := Aside0.mk HS.out.1.lt
    replace HS : Aside0 (St w [wN.heap.size, w.heap.size] g t2 _) := ⟨(HS.out.keep hb).1.more (by have := hgl.out; omega) (by simp) (HS.out.below.size)⟩
    obtain ⟨b6, h6⟩ : ∃ b, b = wN.heap.size := ⟨_, rfl⟩
    have HG : Aside0 (g < b6) := ⟨by have := hgl.out; omega⟩
    rw [← h6] at BK6 HS ⊢
    clear hb hgl
    generalize wN.alloc (.cells (ansC (wrap64 cd) (.slice none 0 0) (wrap64 nn)) 31 (0, 0)) = w3 at HS BK2 BK6 ⊢
    clear h6
    obtain ⟨hm0, hm1⟩ := nextN_one e3.out HS.out.2.2.2.2.1
    obtain ⟨M, rfl⟩ : ∃ M : Nat, m = M := ⟨m.toNat, by omega⟩
    have hM : Aside0 (M < 256) := ⟨by omega⟩
    have hwm : Aside0 (wrap64 (M : Int) = M) := ⟨by unfold wrap64; omega⟩
    clear hm0 hm1
    have HO : Aside0 (Kd.R k54 54 w3 w.heap.size (fun k => g < k ∧ k ≠ b6) (.slice none 0 0) []) := ⟨Kd.R_nil _ _ _ _ _⟩
    refine (num_k e3.out HS.out).mono ?_
    rintro e wN ⟨rfl, hs⟩
    have HS_ := Aside0.mk hs.1
    have BK2_ := Aside0.mk ((hs.2.1 _ (by simp)).trans BK2.out)
    have BK6_ := Aside0.mk ((hs.2.1 _ (by simp)).trans BK6.out)
    have HO_ := Aside0.mk (Kd.R_keep HO.out hs.2.2 (fun k hk => by omega))
    clear hs HS BK2 BK6 HO
    have HS := HS_
    have BK2 := BK2_
    have BK6 := BK6_
    have HO := HO_
    clear HS_ BK2_ BK6_ HO_
    go_wp2_with fail
    rw [hwm.out]
    go_loopg [8] M (fun kq v8 w' => ∃ (i : Nat) (v5 : Value) (t : Rest) (recs : List S54), v8 = .int .i64 (i : Int) ∧ Aside0 (kq + i = M) ∧ Aside0 (recsGo kq t recs = RS) ∧ Aside0 (recs.length ≤ i) ∧ Aside0 (St w [b6, w.heap.size] g t w') ∧ Aside0 (w'.heap[w.heap.size]? = some (.cells (ansC 0 (.slice none 0 0) 0) 31 (0, 0))) ∧ Aside0 (w'.heap[b6]? = some (.cells (ansC (wrap64 cd) v5 (wrap64 nn)) 31 (0, 0))) ∧ Aside0 (Kd.R k54 54 w' w.heap.size (fun k => g < k ∧ k ≠ b6) v5 recs))
    case atStart => exact ⟨0, _, t3, [], rfl, ⟨by omega⟩, ⟨by rw [hRS.out, hwm.out, Int.toNat_natCast]⟩, ⟨Nat.le_refl _⟩, HS, BK2, BK6, HO⟩
    case round =>
      clear HS BK2 BK6 HO hRS
      obtain ⟨i, v5, t, recs, rfl, HK1, hX, HLn, HS, BK2, BK6, HO⟩ := hrel
      obtain ⟨A5, c5, e5⟩ := Kd.R_slice HO.out
      obtain ⟨zs, bd⟩ := t
      by_cases hi : i < M
      · have p1 := eq_true (show (i : Int) < (M : Int) by omega)
        have p1' := eq_true hi
        obtain ⟨k1, rfl⟩ : ∃ k1, gk = k1 + 1 := ⟨gk - 1, by have := HK1.out; omega⟩
        go_wp2_with fail
        refine (right_k HS.out).mono ?_
        rintro e wN ⟨rfl, hs⟩
        have HS_ := Aside0.mk hs.1
        have BK2_ := Aside0.mk ((hs.2.1 _ (by simp)).trans BK2.out)
        have BK6_ := Aside0.mk ((hs.2.1 _ (by simp)).trans BK6.out)
        have HO_ := Aside0.mk (Kd.R_keep HO.out hs.2.2 (fun k hk => by omega))
        clear hs HS BK2 BK6 HO
        have HS := HS_
        have BK2 := BK2_
        have BK6 := BK6_
        have HO := HO_
        clear HS_ BK2_ BK6_ HO_
        cases bd with
        | true =>
          subst e5
          have hX : RS = (recs, zs, true) := by rw [← hX.out, recsGo, if_pos rfl]
          have hRS2 : RS = (recs, zs, true) := hX
          rw [hRS2, hwm.out] at hF
          go_wp2_with fail
          refine (right_k HS.out).mono ?_
          rintro e wN ⟨rfl, hs⟩
          have HS_ := Aside0.mk hs.1
          have BK2_ := Aside0.mk ((hs.2.1 _ (by simp)).trans BK2.out)
          have BK6_ := Aside0.mk ((hs.2.1 _ (by simp)).trans BK6.out)
          have HO_ := Aside0.mk (Kd.R_keep HO.out hs.2.2 (fun k hk => by omega))
          clear hs HS BK2 BK6 HO
          have HS := HS_
          have BK2 := BK2_
          have BK6 := BK6_
          have HO := HO_
          clear HS_ BK2_ BK6_ HO_
          have e0 : Aside0 (an = noAns ∧ rc = 3) := ⟨by have := hF.out; rw [if_pos (by first | exact .inl rfl | exact .inl trivial)] at this; exact Prod.mk.inj this⟩
          go_wp2_with (first | ((with_reducible refine gate_ (.store 31 (.tmp 2) (.tmp 74)) rfl ?_); refine wpList_seg rfl 31 (.tmp 2) (.tmp 74) rfl rfl w.heap.size 0 rfl (.agg (ansC 0 (.slice none 0 0) 0)) rfl 31 (ansC 0 (.slice none 0 0) 0) (ansC 0 (.slice none 0 0) 0) BK2.out size31 (Nat.le_of_ble_eq_true rfl) (by simp [Value.cells, Value.oneCell', ansC]) rfl ?_; intro wz hw hz))
          refine bodyPost_ret (results_cell_tmp Try.results15 _ _ w.heap.size 31 (ansC 0 (.slice none 0 0) 0) (0, 0) _ rfl hz Try.underlying31 rfl size31) rfl ?_
          rw [e0.out.1, e0.out.2]
          exact ⟨none, 0, rfl, Nat.le_refl _, Kd.C_nil _ _, hw.below HS.out.below (Nat.le_refl _)⟩
        | false =>
          have hX2 : Aside0 (recsGo k1 (nextR (zs, false)).2 (recs ++ [(nextR (zs, false)).1]) = RS) := ⟨by rw [← hX.out, recsGo, if_neg (by simp)]⟩
          obtain ⟨a1, s1, f1⟩ : ∃ k t, nextN (zs, false) 8 = (k, t) := ⟨_, _, rfl⟩
          obtain ⟨a2, s2, f2⟩ : ∃ k t, nextN s1 4 = (k, t) := ⟨_, _, rfl⟩
          obtain ⟨a3, s3, f3⟩ : ∃ k t, nextN s2 4 = (k, t) := ⟨_, _, rfl⟩
          obtain ⟨a4, s4, f4⟩ : ∃ k t, nextT s3 16 = (k, t) := ⟨_, _, rfl⟩
          have hR : nextR (zs, false) = (⟨0, a1, a2 % 4294967296, a3 % 4294967296, a4, false⟩, s4) := by simp only [nextR, f1, f2, f3, f4]
          rw [hR] at hX2
          clear hR
          replace f1 := Aside0.mk f1
          replace f2 := Aside0.mk f2
          replace f3 := Aside0.mk f3
          replace f4 := Aside0.mk f4
          have LM : Aside0 ((recs.length + 1) * 48 ≤ 140737488355328) := ⟨by have := HLn.out; have := hM.out; omega⟩
          clear e5
          go_wp2_with fail
          have hd := HS.out.keep (below_drew1 (Below.refl _ _))
          have HO_ := Aside0.mk (Kd.R_below HO.out (below_drew1 (Below.refl _ _)))
          replace BK2 := Aside0.mk ((hd.2 _ (by simp)).trans BK2.out)
          replace BK6 := Aside0.mk ((hd.2 _ (by simp)).trans BK6.out)
          replace HS := Aside0.mk hd.1
          clear hd HO
          have HO := HO_
          clear HO_
          refine start_ (n := 17) (S := fun w' => w'.cell? ⟨b6, 1, none⟩ = some v5) (ds := [16]) #[false, false, false, false, false, false, false, false, false, false, false, false, false, false, false, false, false] (by kernel_rfl) rfl rfl ((blk_cell BK6.out 1).trans rfl) (fun hHeld => ?_)
          refine with_tabW parcel_IsAnswer.tab9 parcel_IsAnswer.bits9 (fun HT_ HW_ => ?_)
          generalize World.drew _ = wd at HS BK2 BK6 HO hHeld ⊢
          refine pure_ (i := 0) (N := some 36) (v := ?_) (a' := ?_) #[true, false, false, false, false, false, false, false, false, false, false, false, false, false, false, false, false] rfl rfl (any_of HT_.out (by kernel_rfl)) (fun _ _ _ h => h) (Or.inl ⟨by rfl, ?_⟩) ?_ ?_
          rotate_left
          · intro w'
            go_simp
            with_reducible rfl
          rotate_left
          · simp only [Act.put, List.setIfInBounds_toArray, List.set_cons_zero, List.set_cons_succ, i64_w, i32_w]
            rfl
          refine pure_ (i := 2) (N := some 38) (v := ?_) (a' := ?_) #[true, false, true, false, false, false, false, false, false, false, false, false, false, false, false, false, false] rfl rfl (any_of HT_.out (by kernel_rfl)) (fun _ _ _ h => h) (Or.inl ⟨by rfl, ?_⟩) ?_ ?_
          rotate_left
          · intro w'
            go_simp
            with_reducible rfl
          rotate_left
          · simp only [Act.put, List.setIfInBounds_toArray, List.set_cons_zero, List.set_cons_succ, i64_w, i32_w]
            rfl
          refine pure_ (i := 4) (N := some 40) (v := ?_) (a' := ?_) #[true, false, true, false, true, false, false, false, false, false, false, false, false, false, false, false, false] rfl rfl (any_of HT_.out (by kernel_rfl)) (fun _ _ _ h => h) (Or.inl ⟨by rfl, ?_⟩) ?_ ?_
          rotate_left
          · intro w'
            go_simp
            with_reducible rfl
          rotate_left
          · simp only [Act.put, List.setIfInBounds_toArray, List.set_cons_zero, List.set_cons_succ, i64_w, i32_w]
            rfl
          refine pure_ (i := 7) (N := some 43) (v := ?_) (a' := ?_) #[true, false, true, false, true, false, false, true, false, false, false, false, false, false, false, false, false] rfl rfl (any_of HT_.out (by kernel_rfl)) (fun _ _ _ h => h) (Or.inl ⟨by rfl, ?_⟩) ?_ ?_
          rotate_left
          · intro w'
            go_simp
            with_reducible rfl
          rotate_left
          · simp only [Act.put, List.setIfInBounds_toArray, List.set_cons_zero, List.set_cons_succ, i64_w, i32_w]
            rfl
          refine pure_ (i := 10) (N := some 46) (v := ?_) (a' := ?_) #[true, false, true, false, true, false, false, true, false, false, true, false, false, false, false, false, false] rfl rfl (any_of HT_.out (by kernel_rfl)) (fun _ _ _ h => h) (Or.inl ⟨by rfl, ?_⟩) ?_ ?_
          rotate_left
          · intro w'
            go_simp
            with_reducible rfl
          rotate_left
          · simp only [Act.put, List.setIfInBounds_toArray, List.set_cons_zero, List.set_cons_succ, i64_w, i32_w]
            rfl
          refine take_ (i := 1) (N := some 37) (v := ?_) (a' := ?_) #[true, true, true, false, true, false, false, true, false, false, true, false, false, false, false, false, false] rfl rfl (take_ofW HT_.out HW_.out (by kernel_rfl)) (fun _ _ _ h => h) (Or.inl ⟨by rfl, ?_⟩) hHeld ?_ ?_
          rotate_left
          · intro w' s0
            go_simp
            with_reducible rfl
          rotate_left
          · simp only [Act.put, List.setIfInBounds_toArray, List.set_cons_zero, List.set_cons_succ, i64_w, i32_w]
            rfl
          refine one_ (i := 3) (N := some 39) #[true, true, true, true, true, false, false, true, false, false, true, false, false, false, false, false, false] rfl rfl (one_of HT_.out (by kernel_rfl)) (by decide) (fun K hK => ?_)
          refine goes_ Try.func30 (by kernel_rfl) rfl #[.pointer (some ⟨g, 0, none⟩), .int .i64 8] (by rfl) rfl rfl (by simp only [List.map_toArray, List.map_cons, List.map_nil]; rfl) ?_
          with_reducible refine (num_k f1.out HS.out).mono ?_
          rintro e wN ⟨rfl, hs⟩
          refine ⟨_, rfl, ?_⟩
          have HS_ := Aside0.mk hs.1
          have BK2_ := Aside0.mk ((hs.2.1 _ (by simp)).trans BK2.out)
          have BK6_ := Aside0.mk ((hs.2.1 _ (by simp)).trans BK6.out)
          have HO_ := Aside0.mk (Kd.R_keep HO.out hs.2.2 (fun k hk => by omega))
          clear hs HS BK2 BK6 HO
          have HS := HS_
          have BK2 := BK2_
          have BK6 := BK6_
          have HO := HO_
          clear HS_ BK2_ BK6_ HO_
          refine hK.out _ _ ((blk_cell BK6.out 1).trans rfl) (fun hHeld => ?_)
          clear hK K
          refine norm_ (a' := ?_) ?_ ?_
          rotate_left
          · show Act.put _ (some 39) _ = _
            simp only [Act.put, List.setIfInBounds_toArray, List.set_cons_zero, List.set_cons_succ, i64_w, i32_w]
            rfl
          refine one_ (i := 5) (N := some 41) #[true, true, true, true, true, true, false, true, false, false, true, false, false, false, false, false, false] rfl rfl (one_of HT_.out (by kernel_rfl)) (by decide) (fun K hK => ?_)
          refine goes_ Try.func30 (by kernel_rfl) rfl #[.pointer (some ⟨g, 0, none⟩), .int .i64 4] (by rfl) rfl rfl (by simp only [List.map_toArray, List.map_cons, List.map_nil]; rfl) ?_
          with_reducible refine (num_k f2.out HS.out).mono ?_
          rintro e wN ⟨rfl, hs⟩
          refine ⟨_, rfl, ?_⟩
          have HS_ := Aside0.mk hs.1
          have BK2_ := Aside0.mk ((hs.2.1 _ (by simp)).trans BK2.out)
          have BK6_ := Aside0.mk ((hs.2.1 _ (by simp)).trans BK6.out)
          have HO_ := Aside0.mk (Kd.R_keep HO.out hs.2.2 (fun k hk => by omega))
          clear hs HS BK2 BK6 HO
          have HS := HS_
          have BK2 := BK2_
          have BK6 := BK6_
          have HO := HO_
          clear HS_ BK2_ BK6_ HO_
          refine hK.out _ _ ((blk_cell BK6.out 1).trans rfl) (fun hHeld => ?_)
          clear hK K
          refine norm_ (a' := ?_) ?_ ?_
          rotate_left
          · show Act.put _ (some 41) _ = _
            simp only [Act.put, List.setIfInBounds_toArray, List.set_cons_zero, List.set_cons_succ, i64_w, i32_w]
            rfl
          refine pure_ (i := 6) (N := some 42) (v := ?_) (a' := ?_) #[true, true, true, true, true, true, true, true, false, false, true, false, false, false, false, false, false] rfl rfl (any_of HT_.out (by kernel_rfl)) (fun _ _ _ h => h) (Or.inl ⟨by rfl, ?_⟩) ?_ ?_
          rotate_left
          · intro w'
            go_simp
            with_reducible rfl
          rotate_left
          · simp only [Act.put, List.setIfInBounds_toArray, List.set_cons_zero, List.set_cons_succ, i64_w, i32_w]
            rfl
          refine one_ (i := 8) (N := some 44) #[true, true, true, true, true, true, true, true, true, false, true, false, false, false, false, false, false] rfl rfl (one_of HT_.out (by kernel_rfl)) (by decide) (fun K hK => ?_)
          refine goes_ Try.func30 (by kernel_rfl) rfl #[.pointer (some ⟨g, 0, none⟩), .int .i64 4] (by rfl) rfl rfl (by simp only [List.map_toArray, List.map_cons, List.map_nil]; rfl) ?_
          with_reducible refine (num_k f3.out HS.out).mono ?_
          rintro e wN ⟨rfl, hs⟩
          refine ⟨_, rfl, ?_⟩
          have HS_ := Aside0.mk hs.1
          have BK2_ := Aside0.mk ((hs.2.1 _ (by simp)).trans BK2.out)
          have BK6_ := Aside0.mk ((hs.2.1 _ (by simp)).trans BK6.out)
          have HO_ := Aside0.mk (Kd.R_keep HO.out hs.2.2 (fun k hk => by omega))
          clear hs HS BK2 BK6 HO
          have HS := HS_
          have BK2 := BK2_
          have BK6 := BK6_
          have HO := HO_
          clear HS_ BK2_ BK6_ HO_
          refine hK.out _ _ ((blk_cell BK6.out 1).trans rfl) (fun hHeld => ?_)
          clear hK K
          refine norm_ (a' := ?_) ?_ ?_
          rotate_left
          · show Act.put _ (some 44) _ = _
            simp only [Act.put, List.setIfInBounds_toArray, List.set_cons_zero, List.set_cons_succ, i64_w, i32_w]
            rfl
          refine pure_ (i := 9) (N := some 45) (v := ?_) (a' := ?_) #[true, true, true, true, true, true, true, true, true, true, true, false, false, false, false, false, false] rfl rfl (any_of HT_.out (by kernel_rfl)) (fun _ _ _ h => h) (Or.inl ⟨by rfl, ?_⟩) ?_ ?_
          rotate_left
          · intro w'
            go_simp
            with_reducible rfl
          rotate_left
          · simp only [Act.put, List.setIfInBounds_toArray, List.set_cons_zero, List.set_cons_succ, i64_w, i32_w]
            rfl
          refine one_ (i := 11) (N := some 47) #[true, true, true, true, true, true, true, true, true, true, true, true, false, false, false, false, false] rfl rfl (one_of HT_.out (by kernel_rfl)) (by decide) (fun K hK => ?_)
          refine goes_ Try.func31 (by kernel_rfl) rfl #[.pointer (some ⟨g, 0, none⟩), .int .i64 16] (by rfl) rfl rfl (by simp only [List.map_toArray, List.map_cons, List.map_nil]; rfl) ?_
          with_reducible refine (text_k f4.out HS.out).mono ?_
          rintro e wN ⟨rfl, hs⟩
          refine ⟨_, rfl, ?_⟩
          have HS_ := Aside0.mk hs.1
          have BK2_ := Aside0.mk ((hs.2.1 _ (by simp)).trans BK2.out)
          have BK6_ := Aside0.mk ((hs.2.1 _ (by simp)).trans BK6.out)
          have HO_ := Aside0.mk (Kd.R_keep HO.out hs.2.2 (fun k hk => by omega))
          clear hs HS BK2 BK6 HO
          have HS := HS_
          have BK2 := BK2_
          have BK6 := BK6_
          have HO := HO_
          clear HS_ BK2_ BK6_ HO_
          refine hK.out _ _ ((blk_cell BK6.out 1).trans rfl) (fun hHeld => ?_)
          clear hK K
          refine norm_ (a' := ?_) ?_ ?_
          rotate_left
          · show Act.put _ (some 47) _ = _
            simp only [Act.put, List.setIfInBounds_toArray, List.set_cons_zero, List.set_cons_succ, i64_w, i32_w]
            rfl
          refine pure_ (i := 12) (N := some 48) (v := ?_) (a' := ?_) #[true, true, true, true, true, true, true, true, true, true, true, true, true, false, false, false, false] rfl rfl (any_of HT_.out (by kernel_rfl)) (fun _ _ _ h => h) (Or.inl ⟨by rfl, ?_⟩) ?_ ?_
          rotate_left
          · intro w'
            go_simp
            with_reducible rfl
          rotate_left
          · simp only [Act.put, List.setIfInBounds_toArray, List.set_cons_zero, List.set_cons_succ, i64_w, i32_w]
            rfl
          refine one_ (i := 13) (N := some 49) #[true, true, true, true, true, true, true, true, true, true, true, true, true, true, false, false, false] rfl rfl (one_of HT_.out (by kernel_rfl)) (by decide) (fun K hK => ?_)
          refine value_ (w1 := ?_) (v := ?_) (by rfl) rfl ?_ ?_
          rotate_left 2
          · go_simp
            constructor
            · rfl
            · rfl
          refine hK.out _ _ ((blk_cell (blk_alloc BK6.out _) 1).trans rfl) (fun hHeld => ?_)
          clear hK K
          refine norm_ (a' := ?_) ?_ ?_
          rotate_left
          · show Act.put _ (some 49) _ = _
            simp only [Act.put, List.setIfInBounds_toArray, List.set_cons_zero, List.set_cons_succ, i64_w, i32_w]
            rfl
          refine one_ (i := 14) (N := some 50) #[true, true, true, true, true, true, true, true, true, true, true, true, true, true, true, false, false] rfl rfl (one_of HT_.out (by kernel_rfl)) (by decide) (fun K hK => ?_)
          refine Kd.R_append_step k54 (w0 := w) w.heap.size (by rfl) (.tmp 37) (.tmp 49) 29 54 _ 48 rfl Try.underlying29 info54 rfl (Nat.lt_of_sub_ne_zero (by decide)) (by omega) v5 recs (⟨0, a1, a2 % 4294967296, a3 % 4294967296, a4, false⟩ : S54) [.int .u64 0, .int .u64 a1, .int .u32 (a2 % 4294967296), .int .u32 (a3 % 4294967296), .string a4, .bool false] (fun k => g < k ∧ k ≠ b6) (fun _ => False) rfl rfl ?aP (fun _ hk => hk.elim) ?aF ?aO ?aB ?aS ?aL ?_
          (case aP => exact k54_mkM _ _ _ _)
          (case aB => exact HS.out.below)
          (case aF => exact fun k hk => ⟨by have := HS.out.1.lt; omega, by have := HS.out.lt (b := b6) (by simp); omega⟩)
          (case aO => exact HO.out)
          (case aS => exact HS.out.below.size)
          (case aL => exact LM.out)
          intro v6 wM ho hb hgr hat
          have hs := HS.out.grown hgr (fun r hr => ⟨(HO.out.1 r hr).1, fun hm => by have h1 := (HO.out.1 r hr).1; have h2 := (HO.out.1 r hr).2; have h3 := HS.out.2.2.1; rcases List.mem_cons.1 hm with h | h; exact h2 h; have h4 := List.mem_singleton.1 h; omega⟩) hb
          have HS_ := Aside0.mk hs.1
          have BK2_ := Aside0.mk ((hs.2 _ (by simp)).trans BK2.out)
          have BK6_ := Aside0.mk ((hs.2 _ (by simp)).trans BK6.out)
          have HO_ := Aside0.mk ho
          clear hs HS BK2 BK6 HO ho hb hgr hat
          have HS := HS_
          have BK2 := BK2_
          have BK6 := BK6_
          have HO := HO_
          clear HS_ BK2_ BK6_ HO_
          obtain ⟨A6, c6, rfl⟩ := Kd.R_slice HO.out
          refine hK.out _ _ ((blk_cell BK6.out 1).trans rfl) (fun hHeld => ?_)
          clear hK K
          refine norm_ (a' := ?_) ?_ ?_
          rotate_left
          · show Act.put _ (some 50) _ = _
            simp only [Act.put, List.setIfInBounds_toArray, List.set_cons_zero, List.set_cons_succ, i64_w, i32_w]
            rfl
          refine pure_ (i := 15) (N := some 51) (v := ?_) (a' := ?_) #[true, true, true, true, true, true, true, true, true, true, true, true, true, true, true, true, false] rfl rfl (any_of HT_.out (by kernel_rfl)) (fun _ _ _ h => h) (Or.inl ⟨by rfl, ?_⟩) ?_ ?_
          rotate_left
          · intro w'
            go_simp
            with_reducible rfl
          rotate_left
          · simp only [Act.put, List.setIfInBounds_toArray, List.set_cons_zero, List.set_cons_succ, i64_w, i32_w]
            rfl
          refine last_ (i := 16) (N := none) #[true, true, true, true, true, true, true, true, true, true, true, true, true, true, true, true, true] rfl rfl (one_of HT_.out (by kernel_rfl)) (by decide) (fun K hK => ?_)
          refine step_seg (by rfl) 29 (.tmp 51) (.tmp 50) rfl rfl b6 1 rfl (.slice A6 (recs ++ [(⟨0, a1, a2 % 4294967296, a3 % 4294967296, a4, false⟩ : S54)]).length c6) rfl 31 (ansC (wrap64 cd) v5 (wrap64 nn)) (ansC (wrap64 cd) (.slice A6 (recs ++ [(⟨0, a1, a2 % 4294967296, a3 % 4294967296, a4, false⟩ : S54)]).length c6) (wrap64 nn)) BK6.out size29 (Nat.le_of_ble_eq_true rfl) (by simp [Value.cells, Value.oneCell']) rfl ?_
          intro wM hw BK6_
          have HS_ := Aside0.mk (HS.out.wrote HG.out hw)
          have BK2_ := Aside0.mk (hw.blk (by have := HS.out.2.2.1; have := HG.out; omega) BK2.out)
          have HO_ := Aside0.mk (Kd.R_keep HO.out hw.keepBut (fun k hk => hk.2))
          clear HS BK2 BK6 HO hw
          have HS := HS_
          have BK2 := BK2_
          have BK6 := Aside0.mk BK6_
          have HO := HO_
          clear HS_ BK2_ BK6_ HO_
          refine hK.out _ _ ?_
          clear hK K
          refine done_ (done_of HT_.out (by kernel_rfl)) ?_
          clear p1'
          go_wp2
          go_roundg k1
          case measure => exact Nat.lt_succ_self _
          case rel => exact ⟨i + 1, _, s4, _, by first | rfl | (congr 1; unfold wrap64; have := hM.out; omega), ⟨by have := HK1.out; omega⟩, hX2, ⟨by have := HLn.out; rw [List.length_append, List.length_singleton]; omega⟩, HS, BK2, BK6, HO⟩
      · have p1 := eq_false (show ¬ (i : Int) < (M : Int) by omega)
        have p1' := eq_false hi
        have hz0 : gk = 0 := by have := HK1.out; omega
        subst hz0
        subst e5
        cases bd with
        | true =>
          have hX : RS = (recs, zs, true) := by rw [← hX.out, recsGo]
          have hRS2 : RS = (recs, zs, true) := hX
          rw [hRS2, hwm.out] at hF
          go_wp2_with fail
          refine (right_k HS.out).mono ?_
          rintro e wN ⟨rfl, hs⟩
          have HS_ := Aside0.mk hs.1
          have BK2_ := Aside0.mk ((hs.2.1 _ (by simp)).trans BK2.out)
          have BK6_ := Aside0.mk ((hs.2.1 _ (by simp)).trans BK6.out)
          have HO_ := Aside0.mk (Kd.R_keep HO.out hs.2.2 (fun k hk => by omega))
          clear hs HS BK2 BK6 HO
          have HS := HS_
          have BK2 := BK2_
          have BK6 := BK6_
          have HO := HO_
          clear HS_ BK2_ BK6_ HO_
          have e0 : Aside0 (an = noAns ∧ rc = 3) := ⟨by have := hF.out; rw [if_pos (by first | exact .inl rfl | exact .inl trivial)] at this; exact Prod.mk.inj this⟩
          go_wp2_with (first | ((with_reducible refine gate_ (.store 31 (.tmp 2) (.tmp 74)) rfl ?_); refine wpList_seg rfl 31 (.tmp 2) (.tmp 74) rfl rfl w.heap.size 0 rfl (.agg (ansC 0 (.slice none 0 0) 0)) rfl 31 (ansC 0 (.slice none 0 0) 0) (ansC 0 (.slice none 0 0) 0) BK2.out size31 (Nat.le_of_ble_eq_true rfl) (by simp [Value.cells, Value.oneCell', ansC]) rfl ?_; intro wz hw hz))
          refine bodyPost_ret (results_cell_tmp Try.results15 _ _ w.heap.size 31 (ansC 0 (.slice none 0 0) 0) (0, 0) _ rfl hz Try.underlying31 rfl size31) rfl ?_
          rw [e0.out.1, e0.out.2]
          exact ⟨none, 0, rfl, Nat.le_refl _, Kd.C_nil _ _, hw.below HS.out.below (Nat.le_refl _)⟩
        | false =>
          have hX : RS = (recs, zs, false) := by rw [← hX.out, recsGo]
          have hRS2 : RS = (recs, zs, false) := hX
          rw [hRS2, hwm.out] at hF
          go_wp2_with fail
          refine (right_k HS.out).mono ?_
          rintro e wN ⟨rfl, hs⟩
          have HS_ := Aside0.mk hs.1
          have BK2_ := Aside0.mk ((hs.2.1 _ (by simp)).trans BK2.out)
          have BK6_ := Aside0.mk ((hs.2.1 _ (by simp)).trans BK6.out)
          have HO_ := Aside0.mk (Kd.R_keep HO.out hs.2.2 (fun k hk => by omega))
          clear hs HS BK2 BK6 HO
          have HS := HS_
          have BK2 := BK2_
          have BK6 := BK6_
          have HO := HO_
          clear HS_ BK2_ BK6_ HO_
          go_wp2_with fail
          refine (left_k HS.out).mono ?_
          rintro e wN ⟨rfl, hs⟩
          have HS_ := Aside0.mk hs.1
          have BK2_ := Aside0.mk ((hs.2.1 _ (by simp)).trans BK2.out)
          have BK6_ := Aside0.mk ((hs.2.1 _ (by simp)).trans BK6.out)
          have HO_ := Aside0.mk (Kd.R_keep HO.out hs.2.2 (fun k hk => by omega))
          clear hs HS BK2 BK6 HO
          have HS := HS_
          have BK2 := BK2_
          have BK6 := BK6_
          have HO := HO_
          clear HS_ BK2_ BK6_ HO_
          have hc0 : World.cell? _ ⟨b6, 0, none⟩ = some (.int .i64 (wrap64 cd)) := (blk_cell BK6.out 0).trans rfl
          have hc2 : World.cell? _ ⟨b6, 2, none⟩ = some (.int .i64 (wrap64 nn)) := (blk_cell BK6.out 2).trans rfl
          by_cases g1 : 0 < zs.length
          · have q1 := eq_true (show (0 : Int) < (zs.length : Int) by omega)
            have q1' := eq_true g1
            have e0 : Aside0 (an = noAns ∧ rc = 3) := ⟨by have := hF.out; rw [if_pos (by exact .inr (.inl g1))] at this; exact Prod.mk.inj this⟩
            go_wp2_with (first | ((with_reducible refine gate_ (.store 31 (.tmp 2) (.tmp 74)) rfl ?_); refine wpList_seg rfl 31 (.tmp 2) (.tmp 74) rfl rfl w.heap.size 0 rfl (.agg (ansC 0 (.slice none 0 0) 0)) rfl 31 (ansC 0 (.slice none 0 0) 0) (ansC 0 (.slice none 0 0) 0) BK2.out size31 (Nat.le_of_ble_eq_true rfl) (by simp [Value.cells, Value.oneCell', ansC]) rfl ?_; intro wz hw hz))
            refine bodyPost_ret (results_cell_tmp Try.results15 _ _ w.heap.size 31 (ansC 0 (.slice none 0 0) 0) (0, 0) _ rfl hz Try.underlying31 rfl size31) rfl ?_
            rw [e0.out.1, e0.out.2]
            exact ⟨none, 0, rfl, Nat.le_refl _, Kd.C_nil _ _, hw.below HS.out.below (Nat.le_refl _)⟩
          have q1 := eq_false (show ¬ (0 : Int) < (zs.length : Int) by omega)
          have q1' := eq_false g1
          by_cases g2 : 14 < wrap64 cd
          · have q2 := eq_true g2
            have e0 : Aside0 (an = noAns ∧ rc = 3) := ⟨by have := hF.out; rw [if_pos (by exact .inr (.inr (.inl g2)))] at this; exact Prod.mk.inj this⟩
            go_wp2_with (first | ((with_reducible refine gate_ (.store 31 (.tmp 2) (.tmp 74)) rfl ?_); refine wpList_seg rfl 31 (.tmp 2) (.tmp 74) rfl rfl w.heap.size 0 rfl (.agg (ansC 0 (.slice none 0 0) 0)) rfl 31 (ansC 0 (.slice none 0 0) 0) (ansC 0 (.slice none 0 0) 0) BK2.out size31 (Nat.le_of_ble_eq_true rfl) (by simp [Value.cells, Value.oneCell', ansC]) rfl ?_; intro wz hw hz))
            refine bodyPost_ret (results_cell_tmp Try.results15 _ _ w.heap.size 31 (ansC 0 (.slice none 0 0) 0) (0, 0) _ rfl hz Try.underlying31 rfl size31) rfl ?_
            rw [e0.out.1, e0.out.2]
            exact ⟨none, 0, rfl, Nat.le_refl _, Kd.C_nil _ _, hw.below HS.out.below (Nat.le_refl _)⟩
          have q2 := eq_false g2
          by_cases g3 : wrap64 nn < 0
          · have q3 := eq_true g3
            have e0 : Aside0 (an = noAns ∧ rc = 3) := ⟨by have := hF.out; rw [if_pos (by exact .inr (.inr (.inr (.inl g3))))] at this; exact Prod.mk.inj this⟩
            go_wp2_with (first | ((with_reducible refine gate_ (.store 31 (.tmp 2) (.tmp 74)) rfl ?_); refine wpList_seg rfl 31 (.tmp 2) (.tmp 74) rfl rfl w.heap.size 0 rfl (.agg (ansC 0 (.slice none 0 0) 0)) rfl 31 (ansC 0 (.slice none 0 0) 0) (ansC 0 (.slice none 0 0) 0) BK2.out size31 (Nat.le_of_ble_eq_true rfl) (by simp [Value.cells, Value.oneCell', ansC]) rfl ?_; intro wz hw hz))
            refine bodyPost_ret (results_cell_tmp Try.results15 _ _ w.heap.size 31 (ansC 0 (.slice none 0 0) 0) (0, 0) _ rfl hz Try.underlying31 rfl size31) rfl ?_
            rw [e0.out.1, e0.out.2]
            exact ⟨none, 0, rfl, Nat.le_refl _, Kd.C_nil _ _, hw.below HS.out.below (Nat.le_refl _)⟩
          have q3 := eq_false g3
          by_cases g4 : 200 < (M : Int)
          · have q4 := eq_true g4
            have q4' := eq_true (show 200 < M by omega)
            have e0 : Aside0 (an = noAns ∧ rc = 3) := ⟨by have := hF.out; rw [if_pos (by exact .inr (.inr (.inr (.inr g4))))] at this; exact Prod.mk.inj this⟩
            go_wp2_with (first | ((with_reducible refine gate_ (.store 31 (.tmp 2) (.tmp 74)) rfl ?_); refine wpList_seg rfl 31 (.tmp 2) (.tmp 74) rfl rfl w.heap.size 0 rfl (.agg (ansC 0 (.slice none 0 0) 0)) rfl 31 (ansC 0 (.slice none 0 0) 0) (ansC 0 (.slice none 0 0) 0) BK2.out size31 (Nat.le_of_ble_eq_true rfl) (by simp [Value.cells, Value.oneCell', ansC]) rfl ?_; intro wz hw hz))
            refine bodyPost_ret (results_cell_tmp Try.results15 _ _ w.heap.size 31 (ansC 0 (.slice none 0 0) 0) (0, 0) _ rfl hz Try.underlying31 rfl size31) rfl ?_
            rw [e0.out.1, e0.out.2]
            exact ⟨none, 0, rfl, Nat.le_refl _, Kd.C_nil _ _, hw.below HS.out.below (Nat.le_refl _)⟩
          have q4 := eq_false g4
          have q4' := eq_false (show ¬ 200 < M by omega)
          have e0 : Aside0 (an = ⟨wrap64 cd, recs, wrap64 nn⟩ ∧ rc = 0) := ⟨by have := hF.out; rw [if_neg (by intro h; rcases h with h | h | h | h | h; exact Bool.noConfusion h; exact g1 h; exact g2 h; exact g3 h; exact g4 h)] at this; exact Prod.mk.inj this⟩
          go_wp2_with (first | ((with_reducible refine gate_ (.load 31 (.tmp 6)) rfl ?_); refine wpList_load_row rfl 31 (.tmp 6) rfl b6 rfl 31 (ansC (wrap64 cd) (.slice A5 recs.length c5) (wrap64 nn)) (0, 0) _ BK6.out Try.underlying31 rfl size31 ?_) | ((with_reducible refine gate_ (.store 31 (.tmp 2) (.tmp 75)) rfl ?_); refine wpList_seg rfl 31 (.tmp 2) (.tmp 75) rfl rfl w.heap.size 0 rfl (.agg (ansC (wrap64 cd) (.slice A5 recs.length c5) (wrap64 nn))) rfl 31 (ansC 0 (.slice none 0 0) 0) (ansC (wrap64 cd) (.slice A5 recs.length c5) (wrap64 nn)) BK2.out size31 (Nat.le_of_ble_eq_true rfl) (by simp [Value.cells, Value.oneCell', ansC]) rfl ?_; intro wz hw hz))
          refine bodyPost_ret (results_cell_tmp Try.results15 _ _ w.heap.size 31 (ansC (wrap64 cd) (.slice A5 recs.length c5) (wrap64 nn)) (0, 0) _ rfl hz Try.underlying31 rfl size31) rfl ?_
          rw [e0.out.1, e0.out.2]
          have hO2 := Kd.R_keep HO.out hw.keepBut (fun k hk => by have := HS.out.2.2.1; omega)
          exact ⟨A5, c5, rfl, (Kd.R_reads' hO2).2.1, (Kd.R_reads' hO2).2.2, hw.below HS.out.below (Nat.le_refl _)⟩
end Go.Proofs.Ytnhkpolfkmpldaa.PAll
