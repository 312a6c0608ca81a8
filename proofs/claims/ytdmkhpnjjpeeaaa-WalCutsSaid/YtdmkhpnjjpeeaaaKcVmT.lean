import Derived.Test.YtdmkhpnjjpeeaaaKcQq
import Derived.Test.YtdmkhpnjjpeeaaaKcVmP
import Derived.Laws.BitsAllLaws
import Derived.Defers
import Derived.RangeFuncIn
import Derived.RangeFuncNested
import Derived.Lib.SlBytesConst
import Derived.Test.YtdmkhpnjjpeeaaaProg
import Derived.Test.YtdmkhpnjjpeeaaaKcVmI
import Derived.ProofKit
set_option linter.unusedVariables false
set_option linter.unusedSimpArgs false
namespace Go.Vm.Crc
open Go.RowKit
def M (x : BitVec 32) : BitVec 32 := (x >>> 1) ^^^ (if x.getLsbD 0 then 0x82f63b78#32 else 0#32)
def it : Nat → BitVec 32 → BitVec 32
  | 0, x => x
  | j + 1, x => it j (M x)
theorem M_xor (x y : BitVec 32) : M (x ^^^ y) = M x ^^^ M y := by
  unfold M
  rw [BitVec.ushiftRight_xor_distrib, BitVec.getLsbD_xor]
  generalize x >>> 1 = a
  generalize y >>> 1 = b
  cases x.getLsbD 0 <;> cases y.getLsbD 0 <;> simp only [Bool.xor_false, Bool.xor_true, Bool.not_false, Bool.not_true, Bool.false_eq_true, if_true, if_false, BitVec.xor_zero]
  · ac_rfl
  · ac_rfl
  · have : a ^^^ 0x82f63b78#32 ^^^ (b ^^^ 0x82f63b78#32) = (a ^^^ b) ^^^ (0x82f63b78#32 ^^^ 0x82f63b78#32) := by ac_rfl
    rw [this, BitVec.xor_self, BitVec.xor_zero]
theorem it_xor (j : Nat) : ∀ x y, it j (x ^^^ y) = it j x ^^^ it j y := by
  induction j with
  | zero => intro x y; rfl
  | succ j ih => intro x y; simp only [it, M_xor, ih]
theorem it_add (i j : Nat) : ∀ x, it (i + j) x = it j (it i x) := by
  induction i with
  | zero => intro x; simp [it]
  | succ i ih => intro x; rw [Nat.succ_add]; simp only [it, ih]
theorem M_low (x : BitVec 32) (h : x.getLsbD 0 = false) : M x = x >>> 1 := by
  unfold M; rw [h]; simp
theorem it_low (j : Nat) : ∀ y : BitVec 32, (∀ i, i < j → y.getLsbD i = false) → it j y = y >>> j := by
  induction j with
  | zero => intro y _; simp [it]
  | succ j ih =>
    intro y h
    simp only [it]
    rw [M_low y (h 0 (by omega)), ih _ (fun i hi => by rw [BitVec.getLsbD_ushiftRight]; exact h (1 + i) (by omega)), ← BitVec.shiftRight_add]
    congr 1; omega
theorem mask_bit (j i : Nat) (hj : j ≤ 32) : (BitVec.ofNat 32 (2 ^ j - 1)).getLsbD i = decide (i < j) := by
  rw [BitVec.getLsbD_ofNat, Nat.testBit_two_pow_sub_one]
  by_cases h : i < j
  · simp [h]; omega
  · simp [h]
theorem it_split (j : Nat) (hj : j ≤ 32) (x : BitVec 32) : it j x = it j (x &&& BitVec.ofNat 32 (2 ^ j - 1)) ^^^ (x >>> j) := by
  have e : x = (x &&& BitVec.ofNat 32 (2 ^ j - 1)) ^^^ (x ^^^ (x &&& BitVec.ofNat 32 (2 ^ j - 1))) := by
    rw [← BitVec.xor_assoc, BitVec.xor_comm _ x, BitVec.xor_assoc, BitVec.xor_self, BitVec.xor_zero]
  conv => lhs; rw [e]
  rw [it_xor]
  congr 1
  rw [it_low j _ (fun i hi => by rw [BitVec.getLsbD_xor, BitVec.getLsbD_and, mask_bit j i hj]; simp [hi])]
  apply BitVec.eq_of_getLsbD_eq
  intro i hi
  rw [BitVec.getLsbD_ushiftRight, BitVec.getLsbD_ushiftRight, BitVec.getLsbD_xor, BitVec.getLsbD_and, mask_bit j _ hj]
  have hz : decide (j + i < j) = false := by simp
  rw [hz, Bool.and_false, Bool.xor_false]
def G : BitVec 32 → Nat → Nat → BitVec 32
  | s, _, 0 => s
  | s, E, j + 1 => G (M (s ^^^ BitVec.ofNat 32 (E % 2))) (E / 2) j
theorem ofNat_xor (a b : Nat) : BitVec.ofNat 32 (a ^^^ b) = BitVec.ofNat 32 a ^^^ BitVec.ofNat 32 b := by
  apply BitVec.eq_of_getLsbD_eq; intro i hi
  rw [BitVec.getLsbD_xor, BitVec.getLsbD_ofNat, BitVec.getLsbD_ofNat, BitVec.getLsbD_ofNat, Nat.testBit_xor]; simp [hi]
theorem G_it (j : Nat) : ∀ s E, j ≤ 32 → E < 2 ^ j → G s E j = it j (s ^^^ BitVec.ofNat 32 E) := by
  induction j with
  | zero => intro s E _ h; have : E = 0 := by omega
            subst this; simp [G, it]
  | succ j ih =>
    intro s E hj h
    simp only [G, it]
    rw [ih _ _ (by omega) (by rw [Nat.pow_succ] at h; omega)]
    congr 1
    have e : E = (E % 2) ^^^ (E / 2 * 2) := by
      apply Nat.eq_of_testBit_eq; intro i
      rw [Nat.testBit_xor]
      match i with
      | 0 => simp [Nat.testBit_zero]
      | i + 1 => simp [Nat.testBit_succ, show E % 2 / 2 = 0 from by omega]
    have e0 : (BitVec.ofNat 32 (E / 2 * 2)).getLsbD 0 = false := by
      rw [BitVec.getLsbD_ofNat]; simp [Nat.testBit_zero]
    have e1 : M (BitVec.ofNat 32 (E / 2 * 2)) = BitVec.ofNat 32 (E / 2) := by
      rw [M_low _ e0]
      apply BitVec.eq_of_toNat_eq
      have h32 : E / 2 * 2 < 2 ^ 32 := Nat.lt_of_lt_of_le (by omega) (Nat.pow_le_pow_right (by omega) hj)
      rw [BitVec.toNat_ushiftRight, BitVec.toNat_ofNat, BitVec.toNat_ofNat, Nat.mod_eq_of_lt h32, Nat.mod_eq_of_lt (by omega), Nat.shiftRight_eq_div_pow]
      omega
    conv => rhs; rw [e, ofNat_xor, ← BitVec.xor_assoc, M_xor, e1]
theorem G_more (i : Nat) : ∀ s E j, G s E (i + j) = G (G s E i) (E / 2 ^ i) j := by
  induction i with
  | zero => intro s E j; simp [G]
  | succ i ih =>
    intro s E j
    rw [show i + 1 + j = (i + j) + 1 from by omega]
    simp only [G]
    rw [ih, Nat.div_div_eq_div_mul, Nat.pow_succ, Nat.mul_comm 2]
def nB (v : BitVec 32) : Int := (v.toNat : Int)
theorem n_xor (a b : BitVec 32) : bits .xor .u32 (nB a) (nB b) = nB (a ^^^ b) := by
  rw [nB, nB, u32_xor_nat a.toNat b.toNat a.isLt b.isLt]; simp [nB]
theorem n_and (a b : BitVec 32) : bits .and .u32 (nB a) (nB b) = nB (a &&& b) := by
  rw [nB, nB, u32_and_nat a.toNat b.toNat a.isLt b.isLt]; simp [nB]
theorem n_shr (a : BitVec 32) (k : Nat) : nB a / (2 : Int) ^ k = nB (a >>> k) := by
  simp [nB, BitVec.toNat_ushiftRight, Nat.shiftRight_eq_div_pow]
theorem n_and1 (a : BitVec 32) : bits .and .u32 (nB a) 1 = nB (a &&& 1#32) := n_and a 1#32
theorem n_and15 (a : BitVec 32) : bits .and .u32 (nB a) 15 = nB (a &&& 15#32) := n_and a 15#32
theorem n_poly (a : BitVec 32) : bits .xor .u32 (nB a) 2197175160 = nB (a ^^^ 0x82f63b78#32) := n_xor a 0x82f63b78#32
theorem n_ofNat (c : Nat) (h : c < 4294967296) : nB (BitVec.ofNat 32 c) = c := by simp [nB]; omega
theorem n_bit (v : BitVec 32) : (nB (v &&& 1#32) = 1) ↔ v.getLsbD 0 = true := by
  rw [nB, BitVec.toNat_and, show (1#32).toNat = 1 from rfl, Nat.and_one_is_mod, BitVec.getLsbD, Nat.testBit_zero]
  simp; omega
theorem half_n (r : BitVec 32) (c : Nat) (hc : c < 256) : it 4 ((r ^^^ BitVec.ofNat 32 c) &&& 15#32) ^^^ (r >>> 4) = it 4 (r ^^^ BitVec.ofNat 32 (c % 16)) := by
  rw [it_split 4 (by omega) (r ^^^ BitVec.ofNat 32 (c % 16))]
  have e1 : (r ^^^ BitVec.ofNat 32 c) &&& 15#32 = (r ^^^ BitVec.ofNat 32 (c % 16)) &&& BitVec.ofNat 32 (2 ^ 4 - 1) := by
    apply BitVec.eq_of_getLsbD_eq; intro i hi
    rw [BitVec.getLsbD_and, BitVec.getLsbD_and, mask_bit 4 i (by omega), BitVec.getLsbD_xor, BitVec.getLsbD_xor, BitVec.getLsbD_ofNat, BitVec.getLsbD_ofNat, show (16 : Nat) = 2 ^ 4 from rfl, Nat.testBit_mod_two_pow]
    by_cases h : i < 4 <;> simp [h]
  have e2 : (r ^^^ BitVec.ofNat 32 (c % 16)) >>> 4 = r >>> 4 := by
    rw [BitVec.ushiftRight_xor_distrib]
    have : BitVec.ofNat 32 (c % 16) >>> 4 = 0#32 := by
      apply BitVec.eq_of_toNat_eq
      rw [BitVec.toNat_ushiftRight, BitVec.toNat_ofNat, Nat.shiftRight_eq_div_pow]
      simp; omega
    rw [this, BitVec.xor_zero]
  rw [e1, e2]
theorem byte_n (r : BitVec 32) (c : Nat) (hc : c < 256) : it 4 ((it 4 (r ^^^ BitVec.ofNat 32 (c % 16))) ^^^ BitVec.ofNat 32 (c / 16 % 16)) = G r c 8 := by
  rw [G_it 8 r c (by omega) (by omega), it_add 4 4]
  congr 1
  have h1 : c / 16 % 16 = c / 16 := by omega
  have e : BitVec.ofNat 32 c = BitVec.ofNat 32 (c % 16) ^^^ BitVec.ofNat 32 (c / 16 * 16) := by
    rw [← ofNat_xor]; congr 1
    apply Nat.eq_of_testBit_eq; intro i
    rw [Nat.testBit_xor, show (16 : Nat) = 2 ^ 4 from rfl, Nat.testBit_mod_two_pow, Nat.testBit_mul_two_pow, Nat.testBit_div_two_pow]
    by_cases h : i < 4
    · have h4 : ¬ 4 ≤ i := by omega
      simp [h, h4]
    · have h4 : 4 ≤ i := by omega
      simp [h, h4]
  have hl : it 4 (BitVec.ofNat 32 (c / 16 * 16)) = BitVec.ofNat 32 (c / 16) := by
    rw [it_low 4 _ (fun i hi => by
      rw [BitVec.getLsbD_ofNat, show (16 : Nat) = 2 ^ 4 from rfl, Nat.testBit_mul_two_pow]
      have : ¬ 4 ≤ i := by omega
      simp [this])]
    apply BitVec.eq_of_toNat_eq
    rw [BitVec.toNat_ushiftRight, BitVec.toNat_ofNat, BitVec.toNat_ofNat, Nat.shiftRight_eq_div_pow, Nat.mod_eq_of_lt (by omega), Nat.mod_eq_of_lt (by omega)]
    omega
  rw [h1, e, ← BitVec.xor_assoc, it_xor 4 (r ^^^ BitVec.ofNat 32 (c % 16)), hl]
theorem G_one (s : BitVec 32) (E m : Nat) : G s E (m + 1) = M (G s E m ^^^ BitVec.ofNat 32 (E / 2 ^ m % 2)) := by
  rw [G_more]; rfl
def crcF (s : BitVec 32) (l : List Int) : BitVec 32 := l.foldl (fun s c => G s c.toNat 8) s
def crcV (l : List Int) : BitVec 32 := ~~~ (crcF (~~~ 0#32) l)
theorem crcF_snoc (s : BitVec 32) (l : List Int) (c : Int) : crcF s (l ++ [c]) = G (crcF s l) c.toNat 8 := by simp [crcF]
theorem crcF_take {s : BitVec 32} {b : List Int} {j : Nat} (h : j < b.length) : crcF s (b.take (j + 1)) = G (crcF s (b.take j)) (at' b (j : Int)).toNat 8 := by
  rw [at_nat _ _ h, List.take_add_one, List.getElem?_eq_getElem h]; exact crcF_snoc _ _ _
theorem n_lt (c : BitVec 32) : 0 ≤ nB c ∧ nB c < 4294967296 := by
  have := c.isLt; simp [nB]; omega
theorem n_not (v : BitVec 32) : bits .xor .u32 IntKind.u32.max (nB v) = nB (~~~ v) := by
  rw [show IntKind.u32.max = nB (BitVec.allOnes 32) from by kernel_rfl, n_xor, BitVec.allOnes_xor]
theorem n_not' (v : BitVec 32) : (4294967295 : Int) - nB v = nB (~~~ v) := by
  have := v.isLt
  simp [nB, BitVec.toNat_not]; omega
def q4 (c : BitVec 32) : List Int := [nB c % 256, nB c / 256 % 256, nB c / 65536 % 256, nB c / 16777216 % 256]
theorem q4_byts (c : BitVec 32) : Byts (q4 c) := by
  intro x hx; simp [q4] at hx; omega
theorem q4_len (c : BitVec 32) : (q4 c).length = 4 := rfl
def sealB (b : List Int) : List Int := b ++ q4 (crcV b)
theorem sealB_len (b : List Int) : (sealB b).length = b.length + 4 := by simp [sealB, q4_len]
theorem sealB_byts {b : List Int} (h : Byts b) : Byts (sealB b) := bytes_app h (q4_byts _)
def sealOK (b : List Int) : Bool := decide (4 ≤ b.length ∧ b.drop (b.length - 4) = q4 (crcV (b.take (b.length - 4))))
def sealG (b : List Int) : List Int := if sealOK b = true then b.take (b.length - 4) else []
theorem sealOK_put (b : List Int) : sealOK (sealB b) = true := by
  refine decide_eq_true ?_;rw [sealB_len, Nat.add_sub_cancel];exact ⟨by omega, by unfold sealB; rw [List.drop_left, List.take_left]⟩
theorem sealG_put (b : List Int) : sealG (sealB b) = b := by
  rw [sealG, if_pos (sealOK_put b), sealB_len, Nat.add_sub_cancel]; unfold sealB; rw [List.take_left]
theorem sealG_byts {b : List Int} (h : Byts b) : Byts (sealG b) := by
  unfold sealG; split
  · exact bytes_take h _
  · exact bytes_nil
theorem sealG_len (b : List Int) : (sealG b).length ≤ b.length := by
  unfold sealG; split
  · simp
  · simp
theorem drop4 {l : List Int} (h : 4 ≤ l.length) : l.drop (l.length - 4) = [at' l ((l.length : Int) - 4), at' l ((l.length : Int) - 4 + 1), at' l ((l.length : Int) - 4 + 2), at' l ((l.length : Int) - 4 + 3)] := by
  obtain ⟨m, hm⟩ : ∃ m, l.length = m + 4 := ⟨l.length - 4, by omega⟩
  have e : ∀ j : Nat, (hj : m + j < l.length) → at' l (((l.length : Nat) : Int) - 4 + j) = l[m + j] := by
    intro j hj
    rw [show ((l.length : Nat) : Int) - 4 + j = ((m + j : Nat) : Int) by omega, at_nat _ _ hj]
  rw [show l.length - 4 = m by omega, List.drop_eq_getElem_cons (by omega), List.drop_eq_getElem_cons (by omega), List.drop_eq_getElem_cons (by omega), List.drop_eq_getElem_cons (by omega), List.drop_of_length_le (by omega)]
  have e0 := e 0 (by omega)
  rw [show ((l.length : Nat) : Int) - 4 + (0 : Nat) = (l.length : Int) - 4 by omega] at e0
  have e1 := e 1 (by omega)
  have e2 := e 2 (by omega)
  have e3 := e 3 (by omega)
  simp only [Int.natCast_one, Int.cast_ofNat_Int] at e1 e2 e3
  rw [e0, show ((l.length : Int) - 4 + 1) = ((l.length : Nat) : Int) - 4 + (1 : Nat) by omega, e 1 (by omega), show ((l.length : Int) - 4 + 2) = ((l.length : Nat) : Int) - 4 + (2 : Nat) by omega, e 2 (by omega), show ((l.length : Int) - 4 + 3) = ((l.length : Nat) : Int) - 4 + (3 : Nat) by omega, e 3 (by omega)]
  rfl
end Go.Vm.Crc
set_option linter.unusedVariables false
set_option linter.unusedSimpArgs false
namespace Go.Vm
def DoesD (P : Program) (f : FuncId) (vs : List V) (pre up : List (Nat × Box)) : Prop :=
  ∀ n X (args : Array Value), R n X → RowRep X vs args.toList → (∀ p ∈ pre, X.bx p.1 = p.2) → (∀ p ∈ up, p.1 < n) →
    CallsD P f args .returning X.w fun e u' w' => u' = .returning ∧ ∃ X' u, e = .returned u ∧ X'.bx = upds X.bx up ∧ R n X' ∧ Ext X X' ∧ X'.w = w'
def EscD (P : Program) (n : Nat) (X0 : Ctx) (N : Nat) (up : List (Nat × Box)) (r : V) (rs : List ResultVar) (a : Act) (w : World) : Prop :=
  ∃ (s : S) (X : Ctx) (f : FuncId) (fn : Func) (us : List Value) (vs : List V) (preD upD : List (Nat × Box)), St ⟨X0, [{ target := .fn (.func f) us.toArray, args := #[] }], fun _ _ => False, none, false⟩ N s X a ∧ X.w = w ∧ RowRep X vs us ∧
    P.funcs[f]? = some fn ∧ (fn.name == "runtime.NumGoroutine") = false ∧ fn.body.isSome = true ∧ DoesD P f vs preD upD ∧ (∀ p ∈ preD, s.bx p.1 = p.2) ∧ (∀ p ∈ upD, p.1 < s.n) ∧ Fin P n X0.bx up r rs ⟨s.t, s.n, upds s.bx upD⟩
theorem does_defer {P : Program} {f : FuncId} {fn : Func} {c : Code} {vs : List V} {pre up : List (Nat × Box)} {r : V} {l : List (Nat × V)} (m : Nat) (hf : P.funcs[f]? = some fn) (hb : fn.body = some c) (hl : Nat.ble vs.length fn.ntmps = true) (hl' : (vs.zipIdx.map fun p => (p.2, p.1)) = l)
    (h : ∀ n X0, (∀ k, n ≤ k → X0.bx k = .dead) → PreOK X0.bx pre → UpLt n up → bdL n vs →
      Runs P ⟨X0, [], EscD P n X0 fn.ntmps up r fn.results.toList, none, false⟩ fn.ntmps c ⟨mk l, n + m, X0.bx⟩ (fun e s => (e = .normal ∨ e = .ret) ∧ Fin P n X0.bx up r fn.results.toList s)) : Does P f vs pre up r := by
  intro n X args hR hargs hpre hup
  refine calls_of_wp_defers hf hb ?_;have hlen : args.size = vs.length := by have := hargs.length; simpa using this.symm
  have hl := Nat.le_of_ble_eq_true hl
  have hst : St ⟨X, [], EscD P n X fn.ntmps up r fn.results.toList, none, false⟩ fn.ntmps ⟨fun i => vs.getD i .junk, n, X.bx⟩ X { tmps := args ++ Array.replicate (fn.ntmps - args.size) undef, defers := [] } := by
    refine ⟨hR, rfl, fun i => ?_, ?_, .nil rfl, Ext.refl X⟩
    · have := getD_rep vs args.toList (fn.ntmps - args.size) i hargs
      simpa [List.getD_eq_getElem?_getD, Array.getElem?_append, List.getElem?_append, Array.getElem?_replicate, List.getElem?_replicate] using this
    · simp; omega
  have hrun := h n X hR.dead (pre_of hpre) (UpLt.of hup) (RowRep.bd hR _ _ hargs)
  have hrun2 := runs_weak (s := ⟨fun i => vs.getD i .junk, n, X.bx⟩) (t' := mk l) (n' := n + m) (fun i => ?hm) (Nat.le_add_right _ _) hrun
  case hm =>
    subst hl'
    have key : ∀ (vs : List V) (k i : Nat), VLe (vs.getD i .junk) (mk ((vs.zipIdx k).map fun p => (p.2, p.1)) (k + i)) := by
      intro vs
      induction vs with
      | nil => intro k i; simp [mk]; exact VLe.refl _
      | cons v vs ih =>
        intro k i
        simp only [List.zipIdx_cons, List.map_cons, mk]
        cases i with
        | zero => show VLe v (upd _ k v k); rw [upd_eq]; exact VLe.refl _
        | succ i =>
          rw [upd_ne _ _ _ _ (by omega)]
          have := ih (k + 1) i
          rw [show k + (i + 1) = k + 1 + i by omega]
          simpa using this
    have := key vs 0 i
    rw [Nat.zero_add] at this
    exact this
  refine wp_mono (wpIn_wide.1 (hrun2 X _ hst)) ?_
  rintro e a' w' (⟨s', X', ⟨he, hfin⟩, rfl, hs'⟩ | ⟨rfl, s', X', g, gn, us, ws, preD, upD, hs', rfl, hrow, hg, hname, hbody, hD, hpreD, hupD, hfin⟩)
  · obtain ⟨v, hr, hv⟩ := fin_end hR hup rfl hs' hfin
    have hd : a'.defers = [] := hs'.defers.none rfl
    rcases he with rfl | rfl
    · show Leaves P fn a'.tmps _ a'.defers .returning _
      rw [hd]; exact ⟨v, hr, hv⟩
    · show Leaves P fn a'.tmps _ a'.defers .returning _
      rw [hd]; exact ⟨v, hr, hv⟩
  · show Leaves P fn a'.tmps _ a'.defers .returning _
    have hd : a'.defers = [{ target := .fn (.func g) us.toArray, args := #[] }] := hs'.defers.none rfl
    rw [hd]
    refine leaves_cons (f := g) (args := us.toArray) (by simp) ?_ ?_
    · simp only [invoke]
      rw [callFunc_run hg hname hbody]
      simp
    · refine (hD s'.n X' us.toArray hs'.rr (by simpa using hrow) (fun p hp => by rw [hs'.bx]; exact hpreD p hp) hupD).mono ?_
      rintro e u' w' ⟨rfl, X2, u, rfl, hbx2, hR2, he2, rfl⟩
      have hs2 : St ⟨X, [{ target := .fn (.func g) us.toArray, args := #[] }], fun _ _ => False, none, false⟩ fn.ntmps ⟨s'.t, s'.n, upds s'.bx upD⟩ X2 a' :=
        ⟨hR2, by rw [hbx2, hs'.bx], fun i => VRep.mono he2 _ _ (hs'.t i), hs'.N, hs'.defers.mono he2 rfl, hs'.ext.trans he2⟩
      obtain ⟨v, hr, hv⟩ := fin_end hR hup rfl hs2 hfin
      exact ⟨v, hr, hv⟩
where
  pre_of {bx : Nat → Box} : ∀ {pre : List (Nat × Box)}, (∀ p ∈ pre, bx p.1 = p.2) → PreOK bx pre
    | [], h => trivial
    | (k, b) :: l, h => ⟨h (k, b) (List.mem_cons_self ..), pre_of (fun p hp => h p (List.mem_cons_of_mem _ hp))⟩
def baseF (X : Ctx) : Bas := { base X with mks := false }
theorem doesD_mk {P : Program} {f : FuncId} {fn : Func} {c : Code} {vs : List V} {pre up : List (Nat × Box)} {l : List (Nat × V)} (m : Nat) (hf : P.funcs[f]? = some fn) (hb : fn.body = some c) (hl : Nat.ble vs.length fn.ntmps = true) (hl' : (vs.zipIdx.map fun p => (p.2, p.1)) = l) (hres : fn.results = #[])
    (h : ∀ n B bx, (∀ k, n ≤ k → bx k = .dead) → PreOK bx pre → UpLt n up → bdL n vs → (∀ k cs, bx k = .cells cs → bdL n cs) → (∀ k v e rows, bx k = .gcells v e rows → bdR n rows) →
      Runs P B fn.ntmps c ⟨mk l, n + m, bx⟩ (fun e s => (e = .normal ∨ e = .ret) ∧ Fin P n bx up (.tup []) fn.results.toList s)) : DoesD P f vs pre up := by
  intro n X args hR hargs hpre hup
  have hbx : ∀ k cs, X.bx k = .cells cs → bdL n cs := fun k cs hk => by obtain ⟨_, us, _, _, h3, _⟩ := hR.box k cs hk; exact RowRep.bd hR _ _ h3
  have hgx : ∀ k v e rows, X.bx k = .gcells v e rows → bdR n rows := fun k v e rows hk => by
    obtain ⟨g1, g2⟩ := hR.gbox k v e rows hk
    rcases g2 with rfl | ⟨_, us, _, _, _, h3, _⟩
    · simp [bdR]
    · exact bdR_flat (RowRep.bd hR _ _ h3)
  have hlen : args.size = vs.length := by have := hargs.length; simpa using this.symm
  have hl := Nat.le_of_ble_eq_true hl
  have hst : St (baseF X) fn.ntmps ⟨fun i => vs.getD i .junk, n, X.bx⟩ X { tmps := args ++ Array.replicate (fn.ntmps - args.size) undef, defers := [] } := by
    refine ⟨hR, rfl, fun i => ?_, ?_, .nil rfl, Ext.refl X⟩
    · have := getD_rep vs args.toList (fn.ntmps - args.size) i hargs
      simpa [List.getD_eq_getElem?_getD, Array.getElem?_append, List.getElem?_append, Array.getElem?_replicate, List.getElem?_replicate] using this
    · simp; omega
  have hrun := h n (baseF X) X.bx hR.dead (does_defer.pre_of hpre) (UpLt.of hup) (RowRep.bd hR _ _ hargs) hbx hgx
  have hrun2 := runs_weak (s := ⟨fun i => vs.getD i .junk, n, X.bx⟩) (t' := mk l) (n' := n + m) (fun i => ?hm) (Nat.le_add_right _ _) hrun
  case hm =>
    subst hl'
    have key : ∀ (vs : List V) (k i : Nat), VLe (vs.getD i .junk) (mk ((vs.zipIdx k).map fun p => (p.2, p.1)) (k + i)) := by
      intro vs
      induction vs with
      | nil => intro k i; simp [mk]; exact VLe.refl _
      | cons v vs ih =>
        intro k i
        simp only [List.zipIdx_cons, List.map_cons, mk]
        cases i with
        | zero => show VLe v (upd _ k v k); rw [upd_eq]; exact VLe.refl _
        | succ i =>
          rw [upd_ne _ _ _ _ (by omega)]
          have := ih (k + 1) i
          rw [show k + (i + 1) = k + 1 + i by omega]
          simpa using this
    have := key vs 0 i
    rw [Nat.zero_add] at this
    exact this
  refine (callsD_of_wp hf hb (R := fun e w' => ∃ X' u, e = .returned u ∧ X'.bx = upds X.bx up ∧ R n X' ∧ Ext X X' ∧ X'.w = w') ?_).mono (fun e u' w' h => h);refine wp_mono (wpIn_wide.1 (hrun2 X _ hst)) ?_
  rintro e a' w' (⟨s', X', ⟨he, hfin⟩, rfl, hs'⟩ | ⟨_, hE⟩)
  · obtain ⟨v, hr, X3, u', h1, h2, h3, h4, h5, h6⟩ := fin_end hR hup rfl hs' hfin
    rcases he with rfl | rfl
    · exact ⟨hs'.defers.none rfl, v, hr, X3, v, rfl, h3, h4, h5, h6⟩
    · exact ⟨hs'.defers.none rfl, v, hr, X3, v, rfl, h3, h4, h5, h6⟩
  · exact hE.elim
theorem runs_defer {P : Program} {n N m : Nat} {X0 : Ctx} {up : List (Nat × Box)} {r : V} {rs : List ResultVar} {id : Nat} {o0 o1 : Oper} {y : Code} {l : List (Nat × V)} {bx : Nat → Box} {Q : Exit → S → Prop} {f : FuncId} {fn : Func} {xs : Array Operand} {vs : List V} {d0 : Tmp}
    (ho : o0.op = .makeFunc (.func f) #[] xs) (hd0 : o0.dst = some d0) (hN : Nat.blt d0 N = true) (hg0 : o0.guard = none) (ho1 : o1.op = .defer { callee := .value (.tmp d0), args := #[], argTypes := #[] }) (hd1 : o1.dst = none) (hg1 : o1.guard = none)
    (hvs : lks l xs.toList = some vs) (hf : P.funcs[f]? = some fn) (hname : (fn.name == "runtime.NumGoroutine") = false) (hb : fn.body.isSome = true)
    (h : ∀ B', Runs P B' N y ⟨mk ((d0, .fn f vs) :: l), m, bx⟩ (fun e s => e = .ret ∧ ∃ preD upD, DoesD P f vs preD upD ∧ (∀ p ∈ preD, s.bx p.1 = p.2) ∧ (∀ p ∈ upD, p.1 < s.n) ∧ Fin P n X0.bx up r rs ⟨s.t, s.n, upds s.bx upD⟩)) :
    Runs P ⟨X0, [], EscD P n X0 N up r rs, none, false⟩ N (.seq (.region id #[o0, o1] false) y) ⟨mk l, m, bx⟩ Q := by
  intro X a hs
  refine wpIn_wide.2 ?_;refine wp_seq ?_;refine wp_region_list ?_;refine wpList_plain hg0 fun K hK => ?_
  have hargs : RowRep X vs (xs.toList.map a.eval) := rowRep_map _ _ (evs_mk hvs) (fun x _ => ev_rep hs.t x)
  have hrun0 : (execOp a.eval o0).run P X.w = .ok (.value (.func (.func f) #[] (xs.map a.eval))) X.w := by
    rw [exec_makeFunc ho, Array.map_empty]; rfl
  unfold Oper.wp
  rw [hrun0]
  refine hK _ _ ?_;rw [hd0];refine wpList_plain hg1 fun K1 hK1 => ?_
  have hev : (a.put (some d0) (.func (.func f) #[] (xs.map a.eval))).eval (.tmp d0) = .func (.func f) #[] (xs.map a.eval) := by
    have hlt : d0 < a.tmps.size := by rw [hs.N]; exact Nat.blt_eq ▸ (by simpa using hN)
    simp [Act.put, Act.eval, hlt]
  have hrun1 : (execOp (a.put (some d0) (.func (.func f) #[] (xs.map a.eval))).eval o1).run P X.w = .ok (.defer { target := .fn (.func f) (xs.map a.eval), args := #[] }) X.w := by
    unfold execOp
    rw [ho1]
    have e1 : resolve (a.put (some d0) (.func (.func f) #[] (xs.map a.eval))).eval { callee := .value (.tmp d0), args := #[], argTypes := #[] } o1.type = Deferred.ofValue ((a.put (some d0) (.func (.func f) #[] (xs.map a.eval))).eval (.tmp d0)) (Array.map (a.put (some d0) (.func (.func f) #[] (xs.map a.eval))).eval #[]) := rfl
    simp only [e1, hev, Array.map_empty, Sem.run_bind]
    rfl
  unfold Oper.wp
  rw [hrun1, Oper.upon_defer]
  refine hK1 _ _ ?_;refine wpList_nil ?_;rw [hd1];have hus : xs.map a.eval = (xs.toList.map a.eval).toArray := by apply Array.toList_inj.1; rw [Array.toList_map]
  have hst' : St ⟨X, [{ target := .fn (.func f) (xs.toList.map a.eval).toArray, args := #[] }], fun _ _ => False, none, false⟩ N ⟨mk ((d0, .fn f vs) :: l), m, bx⟩ X { (a.put (some d0) (.func (.func f) #[] (xs.map a.eval))) with defers := { target := .fn (.func f) (xs.map a.eval), args := #[] } :: (a.put (some d0) (.func (.func f) #[] (xs.map a.eval))).defers } := by
    have h1 := hs.put (X' := X) (u := .func (.func f) #[] (xs.map a.eval)) (v := .fn f vs) (dst := some d0) (up := []) hN hs.rr rfl (Ext.refl X) (by simp only [VRep]; exact ⟨_, by rw [hus], hargs⟩)
    refine ⟨h1.rr, h1.bx, h1.t, h1.N, ?_, Ext.refl X⟩;have h2 : (a.put (some d0) (.func (.func f) #[] (xs.map a.eval))).defers = [] := h1.defers.none rfl;refine .nil ?_;show _ :: (a.put (some d0) (.func (.func f) #[] (xs.map a.eval))).defers = _;rw [h2, hus]
  have h3 := h ⟨X, [{ target := .fn (.func f) (xs.toList.map a.eval).toArray, args := #[] }], fun _ _ => False, none, false⟩ X _ hst'
  refine wp_mono (wpIn_wide.1 h3) ?_
  rintro e a' w' (⟨s', X', ⟨rfl, preD, upD, q1, q2, q3, q4⟩, rfl, hs'⟩ | ⟨_, hE⟩)
  · exact .inr ⟨rfl, s', X', f, fn, xs.toList.map a.eval, vs, preD, upD, ⟨hs'.rr, hs'.bx, hs'.t, hs'.N, .nil (hs'.defers.none rfl), hs.ext.trans hs'.ext⟩, rfl, RowRep.mono hs'.ext _ _ hargs, hf, hname, hb, q1, q2, q3, q4⟩
  · exact hE.elim
end Go.Vm
set_option linter.unusedVariables false
set_option linter.unusedSimpArgs false
namespace Go.Vm
section
variable {n : Nat} {X X' : Ctx} {o : Obj}
end
mutual
theorem V.bd_mono {n m : Nat} (h : n ≤ m) : ∀ v : V, v.bd n → v.bd m
  | .junk, _ => by simp [V.bd]
  | .sc v, _ => by simp [V.bd]
  | .ref k o, hv => by simp only [V.bd] at hv ⊢; omega
  | .ro row, hv => by simp only [V.bd] at hv ⊢; exact bdL_mono h row hv
  | .sl e xs, hv => by simp only [V.bd] at hv ⊢; exact bdR_mono h xs hv
  | .fl e xs, hv => by simp only [V.bd] at hv ⊢; exact bdR_mono h xs hv
  | .own e xs k, hv => by simp only [V.bd] at hv ⊢; exact ⟨bdR_mono h xs hv.1, by omega⟩
  | .msl k o len cap e, hv => by simp only [V.bd] at hv ⊢; omega
  | .gsl k v q len e, hv => by simp only [V.bd] at hv ⊢; omega
  | .gref k v o, hv => by simp only [V.bd] at hv ⊢; omega
  | .fn f cap, hv => by simp only [V.bd] at hv ⊢; exact bdL_mono h cap hv
  | .agg cs, hv => by simp only [V.bd] at hv ⊢; exact bdL_mono h cs hv
  | .tup vs, hv => by simp only [V.bd] at hv ⊢; exact bdL_mono h vs hv
theorem bdL_mono {n m : Nat} (h : n ≤ m) : ∀ vs : List V, bdL n vs → bdL m vs
  | [], _ => trivial
  | v :: vs, hv => by simp only [bdL] at hv ⊢; exact ⟨V.bd_mono h v hv.1, bdL_mono h vs hv.2⟩
theorem bdR_mono {n m : Nat} (h : n ≤ m) : ∀ xs : List (List V), bdR n xs → bdR m xs
  | [], _ => trivial
  | r :: rs, hv => by simp only [bdR] at hv ⊢; exact ⟨bdL_mono h r hv.1, bdR_mono h rs hv.2⟩
end
def BdB (n : Nat) (b : Box) : Prop := (∀ cs, b = .cells cs → bdL n cs) ∧ ∀ v e rows, b = .gcells v e rows → bdR n rows
theorem BdB.mono {n m : Nat} {b : Box} (h : BdB n b) (hm : n ≤ m) : BdB m b := ⟨fun cs e => bdL_mono hm _ (h.1 cs e), fun v e rows q => bdR_mono hm _ (h.2 v e rows q)⟩
def ov (D : Nat → Bool) (f g : Nat → Box) : Nat → Box := fun k => match D k with
  | true => f k
  | false => g k
def DoesY (P : Program) (Xb : Ctx) (l n0 : Nat) (vs : List V) (D E : Nat → Bool) (f g : Nat → Box) (b : Bool) : Prop :=
  ∀ n X (args : List Value), n0 ≤ n → R n X → Ext Xb X → RowRep X vs args → (∀ k, D k = true → k < n ∧ X.bx k = f k) → (∀ k, k < n0 → D k = false → E k = false → X.bx k = Xb.bx k) →
    ∃ fn tmps assign body, (Instr.yield l args.toArray).run P X.w = .ok (.round l fn tmps assign body) X.w ∧
      RoundIn Fence.wide 0 P l fn tmps assign body X.w fun e w' => e = .returned (.bool b) ∧ ∃ X', X'.w = w' ∧ X'.bx = ov D g X.bx ∧ R n X' ∧ Ext X X'
def DoesI (P : Program) (f : FuncId) (caps : List V) (xs : List (List V)) (E : Nat → Bool) (e0 : Nat → Box) (eF : Nat → Bool → Nat → Box) : Prop :=
  ∀ (Xb : Ctx) (l n0 : Nat) (D : Nat → Bool) (σ : Nat → Nat → Box) (m : Nat) (brk : Bool), m ≤ xs.length → (brk = true → 1 ≤ m) → (brk = false → m = xs.length) → (∀ k, D k = true → E k = false) →
    (∀ i v, i < m → xs[i]? = some v → DoesY P Xb l n0 v D E (σ i) (σ (i + 1)) (!(brk && Nat.beq (i + 1) m))) →
    ∀ n X (args : List Value), n0 ≤ n → R n X → Ext Xb X → RowRep X caps args → (∀ k, D k = true → k < n ∧ X.bx k = σ 0 k) → (∀ k, E k = true → k < n ∧ X.bx k = e0 k) → (∀ k, k < n0 → D k = false → E k = false → X.bx k = Xb.bx k) →
      (∀ k, D k = true → BdB n (σ m k)) → (∀ k, E k = true → BdB n (eF m brk k)) →
      Calls P f (Value.func (.yield l) #[] #[] :: args).toArray X.w fun en w' => en = .returned (.tuple #[]) ∧ ∃ X', X'.w = w' ∧ X'.bx = ov D (σ m) (ov E (eF m brk) X.bx) ∧ R n X' ∧ Ext X X'
theorem DoesI.le {P : Program} {f : FuncId} {caps caps' : List V} {xs : List (List V)} {E : Nat → Bool} {e0 : Nat → Box} {eF : Nat → Bool → Nat → Box} (h : DoesI P f caps' xs E e0 eF) (hl : VLes caps caps') : DoesI P f caps xs E e0 eF :=
  fun Xb l n0 D σ m brk h1 h2 h3 h4 h5 n X args k1 k2 k3 k4 k5 k6 k7 k8 k9 => h Xb l n0 D σ m brk h1 h2 h3 h4 h5 n X args k1 k2 k3 (hl.row k4) k5 k6 k7 k8 k9
end Go.Vm
set_option linter.unusedVariables false
set_option linter.unusedSimpArgs false
namespace Go.Vm
section
variable {P : Program} {B : Bas} {N n : Nat} {l : List (Nat × V)} {bx : Nat → Box} {Q : Exit → S → Prop} {g : Operand} {ps : Array Tmp} {assign body : Code} {f : FuncId} {caps : List V} {xs : List (List V)} {E : Nat → Bool} {e0 : Nat → Box} {eF : Nat → Bool → Nat → Box} {fnn : Func} {Dc : Nat → Bool} {σ : Nat → Nat → Box} {m : Nat} {brk : Bool} {ex : Exit} {gv : V} {kl : Nat}
end
end Go.Vm
set_option linter.unusedVariables false
set_option linter.unusedSimpArgs false
namespace Go.Vm
def AllP {α : Type} (p : α → Prop) : List α → Prop
  | [] => True
  | a :: l => p a ∧ AllP p l
theorem AllP.of {α : Type} {p : α → Prop} : ∀ {l : List α}, (∀ a ∈ l, p a) → AllP p l
  | [], _ => trivial
  | b :: l, h => ⟨h b (List.mem_cons_self ..), AllP.of fun a ha => h a (List.mem_cons_of_mem _ ha)⟩
def lkB : List (Nat × Box) → Nat → Box
  | [], _ => .dead
  | (k, b) :: l, j => if j = k then b else lkB l j
def inK : List Nat → Nat → Bool
  | [], _ => false
  | k :: l, j => Nat.beq j k || inK l j
def eL (El : List (Nat × Box × (Nat → Bool → Box))) : List (Nat × Box) := El.map fun p => (p.1, p.2.1)
def eM (El : List (Nat × Box × (Nat → Bool → Box))) (m : Nat) (b : Bool) : List (Nat × Box) := El.map fun p => (p.1, p.2.2 m b)
def DoesL (P : Program) (f : FuncId) (caps : List V) (xs : List (List V)) (El : List (Nat × Box × (Nat → Bool → Box))) : Prop :=
  DoesI P f caps xs (inK (El.map (·.1))) (lkB (eL El)) (fun m b => lkB (eM El m b))
theorem DoesL.le {P : Program} {f : FuncId} {caps caps' : List V} {xs : List (List V)} {El : List (Nat × Box × (Nat → Bool → Box))} (h : DoesL P f caps' xs El) (hl : VLes caps caps') : DoesL P f caps xs El := DoesI.le h hl
theorem AllP.map {α β : Type} {p : β → Prop} {f : α → β} : ∀ {l : List α}, AllP (fun a => p (f a)) l → AllP p (l.map f)
  | [], _ => trivial
  | _ :: _, h => ⟨h.1, AllP.map h.2⟩
theorem AllP.imp {α : Type} {p q : α → Prop} (hi : ∀ a, p a → q a) : ∀ {l : List α}, AllP p l → AllP q l
  | [], _ => trivial
  | _ :: _, h => ⟨hi _ h.1, AllP.imp hi h.2⟩
section
variable {P : Program} {B : Bas} {N n : Nat} {l : List (Nat × V)} {bx : Nat → Box} {Q : Exit → S → Prop} {g : Operand} {ps : Array Tmp} {assign body : Code} {f : FuncId} {caps : List V} {xs : List (List V)} {fnn : Func} {Dl : List (Nat × (Nat → Box))} {El : List (Nat × Box × (Nat → Bool → Box))} {m : Nat} {brk : Bool} {ex : Exit} {gv : V} {kl : Nat}
end
theorem beq_m {m j : Nat} {brk : Bool} (h : (!(brk && Nat.beq (j + 1) m)) = true) (h1 : j < m) : j + 1 ≤ m ∧ (brk = true → j + 1 < m) := by
  refine ⟨h1, fun hb => ?_⟩;subst hb
  cases hq : Nat.beq (j + 1) m with
  | true => rw [hq] at h; cases h
  | false =>
    have : j + 1 ≠ m := fun e => by rw [e, Nat.beq_refl] at hq; cases hq
    omega
def OkJ (brk : Bool) (m j : Nat) : Prop := j ≤ m ∧ (brk = true → j < m)
theorem OkJ.zero {brk : Bool} {m : Nat} (h : brk = true → 1 ≤ m) : OkJ brk m 0 := ⟨Nat.zero_le _, fun hb => h hb⟩
theorem OkJ.next {brk : Bool} {m j : Nat} (h : (!(brk && Nat.beq (j + 1) m)) = true) (h1 : j < m) : OkJ brk m (j + 1) := beq_m h h1
section
variable {P : Program} {o : Oper} {t : Nat → V}
end
section
variable {P : Program} {B : Bas} {N n : Nat} {bx : Nat → Box} {Q : Exit → S → Prop} {ops : Array Oper} {L : List Oper} {l : List (Nat × V)} {o : Oper}
end
section
variable {P : Program} {B : Bas} {N n : Nat} {bx : Nat → Box} {Q : Exit → S → Prop} {ops : Array Oper} {L : List Oper} {l : List (Nat × V)}
theorem rl_growgf {d e k : Nat} (hd : lk l d = some (.fl e [])) (hk : bx k = .dead) (hn : k < n) (hr : RunsL P B N ops L ⟨mk ((d, .gsl k 0 0 0 e) :: l), n, upd bx k (.gcells 0 e [])⟩ Q) : RunsL P B N ops L ⟨mk l, n, bx⟩ Q := by
  intro X a hs
  obtain ⟨t1, t2⟩ := g_bare (v' := 0) (e := e) hs.rr (.inl (by rw [hs.bx]; exact hk)) hn
  refine hr { X with bx := upd X.bx k (.gcells 0 e []) } a ⟨t1, by show upd X.bx k _ = upd bx k _; rw [show X.bx = bx from hs.bx], fun i => ?_, hs.N, hs.defers.mono t2 rfl, hs.ext.trans t2⟩
  by_cases hi : i = d
  · subst hi
    have h1 := hs.t i
    simp only at h1
    rw [lk_mk hd] at h1
    simp only [mk, upd_eq]
    simp only [VRep] at h1 ⊢
    obtain ⟨ad, h1, _⟩ := h1
    exact ⟨ad, 0, 0, e, [], h1, Nat.le_refl _, upd_eq _ _ _, Nat.le_refl _, fun _ => .inl rfl⟩
  · simp only [mk, upd_ne _ _ _ _ hi]
    exact VRep.mono t2 _ _ (hs.t i)
end
end Go.Vm
set_option linter.unusedVariables false
set_option linter.unusedSimpArgs false
namespace Go.Vm
section
variable {P : Program} {o : Oper} {t : Nat → V}
end
end Go.Vm
set_option linter.unusedVariables false
set_option linter.unusedSimpArgs false
namespace Go.Vm
section
variable {P : Program} {B : Bas} {N : Nat} {Q : Exit → S → Prop} {l : List (Nat × V)} {n : Nat} {bx : Nat → Box} {ops : Array Oper} {L : List Oper} {o o2 : Oper}
end
end Go.Vm
set_option linter.unusedVariables false
set_option linter.unusedSimpArgs false
namespace Go.Vm
section
variable {kb : Nat → Nat} {f : Nat → Box}
end
section
variable {P : Program} {B : Bas} {N : Nat} {Q : Exit → S → Prop} {ops : Array Oper} {L : List Oper} {o : Oper} {l : List (Nat × V)} {n : Nat} {bx : Nat → Box}
theorem UpLt.all {n : Nat} : ∀ {l : List (Nat × Box)}, UpLt n l → ∀ p ∈ l, p.1 < n
  | (k, b) :: l, h, p, hp => by
    rcases List.mem_cons.1 hp with rfl | hp
    · exact h.1
    · exact UpLt.all h.2 p hp
end
section
variable {P : Program} {o : Oper} {t : Nat → V}
end
end Go.Vm
namespace Go.Proofs.Ytdmkhpnjjpeeaaa.F
open Go.Vm
theorem sz3 : (Try.prog.info? 3).map (·.size) = some 1 := by kernel_rfl
theorem one3 : OneT Try.prog 3 := ⟨⟨_, Try.underlying3, rfl⟩, sz3⟩
theorem sz4 : (Try.prog.info? 4).map (·.size) = some 1 := by kernel_rfl
theorem one4 : OneT Try.prog 4 := ⟨⟨_, Try.underlying4, rfl⟩, sz4⟩
theorem zero4 : (Try.prog.info? 4).bind (·.zero) = some (.bool false) := by kernel_rfl
theorem el4 : ElemT Try.prog 4 1 := elemT_of sz4 zero4 (by kernel_rfl) (by kernel_rfl)
theorem sz5 : (Try.prog.info? 5).map (·.size) = some 1 := by kernel_rfl
theorem one5 : OneT Try.prog 5 := ⟨⟨_, Try.underlying5, rfl⟩, sz5⟩
theorem zero5 : (Try.prog.info? 5).bind (·.zero) = some (.int .u8 0) := by kernel_rfl
theorem el5 : ElemT Try.prog 5 1 := elemT_of sz5 zero5 (by kernel_rfl) (by kernel_rfl)
theorem sz9 : (Try.prog.info? 9).map (·.size) = some 1 := by kernel_rfl
theorem one9 : OneT Try.prog 9 := ⟨⟨_, Try.underlying9, rfl⟩, sz9⟩
theorem sz22 : (Try.prog.info? 22).map (·.size) = some 1 := by kernel_rfl
theorem one22 : OneT Try.prog 22 := ⟨⟨_, Try.underlying22, rfl⟩, sz22⟩
theorem sz24 : (Try.prog.info? 24).map (·.size) = some 1 := by kernel_rfl
theorem one24 : OneT Try.prog 24 := ⟨⟨_, Try.underlying24, rfl⟩, sz24⟩
theorem sz27 : (Try.prog.info? 27).map (·.size) = some 1 := by kernel_rfl
theorem one27 : OneT Try.prog 27 := ⟨⟨_, Try.underlying27, rfl⟩, sz27⟩
theorem sz31 : (Try.prog.info? 31).map (·.size) = some 4 := by kernel_rfl
theorem agg31 : AggT Try.prog 31 4 := ⟨⟨_, Try.underlying31, rfl⟩, sz31⟩
theorem zero31 : (Try.prog.info? 31).bind (·.zero) = some (.agg #[.int .i64 0, .slice none 0 0, .int .i64 0, .int .i64 0]) := by kernel_rfl
theorem sz33 : (Try.prog.info? 33).map (·.size) = some 1 := by kernel_rfl
theorem one33 : OneT Try.prog 33 := ⟨⟨_, Try.underlying33, rfl⟩, sz33⟩
theorem zero33 : (Try.prog.info? 33).bind (·.zero) = some (.int .u64 0) := by kernel_rfl
theorem el33 : ElemT Try.prog 33 1 := elemT_of sz33 zero33 (by kernel_rfl) (by kernel_rfl)
theorem sz34 : (Try.prog.info? 34).map (·.size) = some 1 := by kernel_rfl
theorem one34 : OneT Try.prog 34 := ⟨⟨_, Try.underlying34, rfl⟩, sz34⟩
theorem sz36 : (Try.prog.info? 36).map (·.size) = some 6 := by kernel_rfl
theorem agg36 : AggT Try.prog 36 6 := ⟨⟨_, Try.underlying36, rfl⟩, sz36⟩
theorem zero36 : (Try.prog.info? 36).bind (·.zero) = some (.agg #[.int .u64 0, .int .u64 0, .int .u32 0, .int .u32 0, .string ByteArray.empty, .bool false]) := by kernel_rfl
theorem sz37 : (Try.prog.info? 37).map (·.size) = some 1 := by kernel_rfl
theorem one37 : OneT Try.prog 37 := ⟨⟨_, Try.underlying37, rfl⟩, sz37⟩
theorem sz38 : (Try.prog.info? 38).map (·.size) = some 1 := by kernel_rfl
theorem one38 : OneT Try.prog 38 := ⟨⟨_, Try.underlying38, rfl⟩, sz38⟩
theorem sz40 : (Try.prog.info? 40).map (·.size) = some 13 := by kernel_rfl
theorem agg40 : AggT Try.prog 40 13 := ⟨⟨_, Try.underlying40, rfl⟩, sz40⟩
theorem zero40 : (Try.prog.info? 40).bind (·.zero) = some (.agg #[.int .u64 0, .int .i64 0, .int .u64 0, .int .u64 0, .int .u64 0, .int .u64 0, .int .u64 0, .int .u32 0, .int .u32 0, .string ByteArray.empty, .bool false, .slice none 0 0, .slice none 0 0]) := by kernel_rfl
theorem el40 : ElemT Try.prog 40 13 := elemT_of sz40 zero40 (by kernel_rfl) (by kernel_rfl)
theorem sz41 : (Try.prog.info? 41).map (·.size) = some 1 := by kernel_rfl
theorem one41 : OneT Try.prog 41 := ⟨⟨_, Try.underlying41, rfl⟩, sz41⟩
theorem zero41 : (Try.prog.info? 41).bind (·.zero) = some (.int .i64 0) := by kernel_rfl
theorem sz47 : (Try.prog.info? 47).map (·.size) = some 64 := by kernel_rfl
theorem agg47 : AggT Try.prog 47 64 := ⟨⟨_, Try.underlying47, rfl⟩, sz47⟩
theorem zero47 : (Try.prog.info? 47).bind (·.zero) = some (.agg (List.replicate 64 (.int .u8 0)).toArray) := by kernel_rfl
theorem el47 : ElemT Try.prog 47 64 := elemT_of sz47 zero47 (by kernel_rfl) (by kernel_rfl)
theorem sz53 : (Try.prog.info? 53).map (·.size) = some 1 := by kernel_rfl
theorem one53 : OneT Try.prog 53 := ⟨⟨_, Try.underlying53, rfl⟩, sz53⟩
theorem sz84 : (Try.prog.info? 84).map (·.size) = some 224 := by kernel_rfl
theorem agg84 : AggT Try.prog 84 224 := ⟨⟨_, Try.underlying84, rfl⟩, sz84⟩
theorem sz86 : (Try.prog.info? 86).map (·.size) = some 225 := by kernel_rfl
theorem agg86 : AggT Try.prog 86 225 := ⟨⟨_, Try.underlying86, rfl⟩, sz86⟩
theorem zero86 : (Try.prog.info? 86).bind (·.zero) = some (.agg (((.int .i64 0) :: List.replicate 224 (.int .u8 0))).toArray) := by kernel_rfl
theorem el86 : ElemT Try.prog 86 225 := elemT_of sz86 zero86 (by kernel_rfl) (by kernel_rfl)
theorem zero94 : (Try.prog.info? 94).bind (·.zero) = some (.agg #[.slice none 0 0, .int .i64 0, .int .i64 0, .slice none 0 0, .bool false]) := by kernel_rfl
theorem zero96 : (Try.prog.info? 96).bind (·.zero) = some (.agg #[.pointer none, .int .i64 0, .int .i64 0, .int .i64 0, .slice none 0 0, .slice none 0 0]) := by kernel_rfl
theorem zero116 : (Try.prog.info? 116).bind (·.zero) = some (.agg #[.int .u64 0, .int .u64 0, .int .u64 0, .int .u64 0]) := by kernel_rfl
theorem zero119 : (Try.prog.info? 119).bind (·.zero) = some (.agg #[.slice none 0 0, .bool false]) := by kernel_rfl
theorem sz125 : (Try.prog.info? 125).map (·.size) = some 16 := by kernel_rfl
theorem agg125 : AggT Try.prog 125 16 := ⟨⟨_, Try.underlying125, rfl⟩, sz125⟩
theorem zero125 : (Try.prog.info? 125).bind (·.zero) = some (.agg #[.int .u32 0, .int .u32 0, .int .u32 0, .int .u32 0, .int .u32 0, .int .u32 0, .int .u32 0, .int .u32 0, .int .u32 0, .int .u32 0, .int .u32 0, .int .u32 0, .int .u32 0, .int .u32 0, .int .u32 0, .int .u32 0]) := by kernel_rfl
end Go.Proofs.Ytdmkhpnjjpeeaaa.F
