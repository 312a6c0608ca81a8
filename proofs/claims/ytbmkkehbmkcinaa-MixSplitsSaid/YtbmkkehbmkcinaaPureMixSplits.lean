/- For all lists of keys and places of a bit, splitting hands back all keys, each on its side and in their order; alike is the number of lowest bits that are the same, and two keys go together up to there and no further. No condition. -/
import Derived.Test.YtbmkkehbmkcinaaPAllx15
import Derived.Test.YtbmkkehbmkcinaaMixF
namespace Go.Proofs.Ytbmkkehbmkcinaa.Pure
open Go.RowKit Go.Proofs.Ytbmkkehbmkcinaa.PAll Go.Proofs.Ytbmkkehbmkcinaa.MixF Go.Proofs.YtbmkkehbmkcinaaW.PrintWords Go.Proofs.YtbmkkehbmkcinaaW.PrintLast Go.Proofs.YtbmkkehbmkcinaaW.PrintMore

theorem side_bit (v : BitVec 64) (at_ : Int) (k : Nat) (hk : 65 ≤ k) : counterpaneref03_Bit.f k (n v) at_ = some (mix_Split.bit (n v) at_) := by
  unfold mix_Split.bit
  by_cases h : 0 ≤ at_ ∧ at_ < 64
  · obtain ⟨i, rfl⟩ : ∃ i : Nat, at_ = i := ⟨at_.toNat, by omega⟩
    rw [ref_bit v i (by omega) k hk, bit_f v i (by omega), Option.getD_some]
  · rw [ref_bit_out v at_ h, bit_out v at_ h, Option.getD_some]
theorem filter_at {p : Int → Bool} {l : List Int} {k : Nat} (h : k < l.length) (hp : p l[k] = true) :
    (l.take k |>.filter p).length < (l.filter p).length ∧ rd (l.filter p) ((l.take k |>.filter p).length : Int) = l[k] := by
  have e : l.filter p = (l.take k).filter p ++ l[k] :: (l.drop (k + 1)).filter p := by
    conv => lhs; rw [← List.take_append_drop k l, List.drop_eq_getElem_cons h]
    rw [List.filter_append, List.filter_cons, if_pos hp]
  rw [e]
  exact ⟨by simp, by simp [rd]⟩
theorem filter_take {p : Int → Bool} {l : List Int} {k : Nat} (h : k < l.length) : (l.take (k + 1)).filter p = (l.take k).filter p ++ if p l[k] then [l[k]] else [] := by
  rw [List.take_succ_eq_append_getElem h, List.filter_append]
  simp [List.filter_cons]
theorem keep_at (b : Bool) (at_ : Int) {l : List Int} {k : Nat} (h : k < l.length) (hp : mix_Split.bit l[k] at_ = b) :
    (mix_Split.keep b at_ (l.take k)).length < (mix_Split.keep b at_ l).length ∧ rd (mix_Split.keep b at_ l) ((mix_Split.keep b at_ (l.take k)).length : Int) = l[k] ∧ (mix_Split.keep b at_ (l.take (k + 1))).length = (mix_Split.keep b at_ (l.take k)).length + 1 := by
  have hp' : (fun x => mix_Split.bit x at_ == b) l[k] = true := by simp [hp]
  obtain ⟨h1, h2⟩ := filter_at (p := fun x => mix_Split.bit x at_ == b) h hp'
  refine ⟨h1, h2, ?_⟩
  unfold mix_Split.keep
  rw [filter_take h, if_pos hp']; simp
theorem keep_not (b : Bool) (at_ : Int) {l : List Int} {k : Nat} (h : k < l.length) (hp : mix_Split.bit l[k] at_ = !b) :
    (mix_Split.keep b at_ (l.take (k + 1))).length = (mix_Split.keep b at_ (l.take k)).length := by
  have hp' : (fun x => mix_Split.bit x at_ == b) l[k] = false := by simp [hp]
  unfold mix_Split.keep
  rw [filter_take h, if_neg (Bool.eq_false_iff.1 hp')]; simp
theorem keep_len (b : Bool) (at_ : Int) (l : List Int) : (mix_Split.keep b at_ l).length ≤ l.length := List.length_filter_le _ _
theorem l1_end (a b : BitVec 64) (x y : List Int) (d : Nat) : ∀ (k i : Nat), i + d = min (alike a b + 1) 64 → 90 ≤ k →
    counterpanelaw03_MixSplits.l1 (k + 2 * d + 2) (n a) (n b) x y (x.length : Int) (y.length : Int) (alike a b : Int) i = some true := by
  induction d with
  | zero =>
    intro k i hi hk
    have hend : ∀ z, counterpanelaw03_MixSplits.j3 (k + 1) (n a) (n b) x y (x.length : Int) (y.length : Int) (alike a b : Int) z false = some true := by
      intro z
      rw [counterpanelaw03_MixSplits.j3, if_neg (by simp), if_pos rfl, if_pos rfl, works_f k (by omega)]; rfl
    rw [show k + 2 * 0 + 2 = (k + 1) + 1 from by omega, counterpanelaw03_MixSplits.l1]
    by_cases h : (i : Int) ≤ (alike a b : Int)
    · rw [if_pos h, decide_eq_false (by omega)]; exact hend _
    · rw [if_neg h]; exact hend _
  | succ d ih =>
    intro k i hi hk
    have e1 : wrap64 ((i : Int) + 1) = ((i + 1 : Nat) : Int) := by unfold wrap64; omega
    rw [show k + 2 * (d + 1) + 2 = (k + 2 * d + 2 + 1) + 1 from by omega, counterpanelaw03_MixSplits.l1, if_pos (by omega), decide_eq_true (by omega), counterpanelaw03_MixSplits.j3, if_pos rfl, bit_f a i (by omega), Option.bind_some, bit_f b i (by omega), Option.bind_some, if_neg, e1]
    · exact ih k (i + 1) (by omega) hk
    · by_cases hl : i < alike a b
      · rw [alike_same a b i hl, decide_eq_true (by omega)]; simp
      · have hq : i = alike a b := by omega
        have hn := alike_not a b (by omega)
        rw [← hq] at hn
        rw [decide_eq_false (by omega)]
        simpa using hn
theorem l0_end (l : List Int) (at_ : Int) (a b : BitVec 64) (hl : l.length ≤ 200) (hu : ∀ x ∈ l, ∃ v : BitVec 64, x = n v) (d : Nat) : ∀ (i : Nat), i + d = l.length →
    counterpanelaw03_MixSplits.l0 (400 + d) l at_ (n a) (n b) (mix_Split.keep false at_ l) (mix_Split.keep true at_ l) (((mix_Split.keep false at_ (l.take i)).length : Nat) : Int) (((mix_Split.keep true at_ (l.take i)).length : Nat) : Int) i = some true := by
  induction d with
  | zero =>
    intro i hi
    obtain rfl : i = l.length := by omega
    have ha := alike_le a b
    rw [counterpanelaw03_MixSplits.l0, if_neg (by omega), alike_f a b 399 (by omega), Option.bind_some, ref_alike a b 399 (by omega), Option.bind_some, if_pos rfl, List.take_length]
    have hx : (((alike a b : Nat) : Int) == 64) = (n a == n b) := by
      have h := alike_64 a b
      by_cases hc : a = b
      · rw [h.2 hc, hc]; simp
      · have h2 : (n a == n b) = false := by rw [beq_eq_false_iff_ne]; exact fun e => hc (n_inj e)
        have h3 : (((alike a b : Nat) : Int) == 64) = false := by rw [beq_eq_false_iff_ne]; intro e; exact hc (h.1 (by omega))
        rw [h2, h3]
    rw [hx]
    simp only [bne_self_eq_false]
    rw [counterpanelaw03_MixSplits.j1, if_neg (by simp)]
    have := l1_end a b (mix_Split.keep false at_ l) (mix_Split.keep true at_ l) (min (alike a b + 1) 64) (398 - 2 * min (alike a b + 1) 64 - 2) 0 (by omega) (by omega)
    rw [show 398 - 2 * min (alike a b + 1) 64 - 2 + 2 * min (alike a b + 1) 64 + 2 = 398 from by omega] at this
    exact this
  | succ d ih =>
    intro i hi
    have hlt : i < l.length := by omega
    obtain ⟨v, hv⟩ := hu l[i] (List.getElem_mem hlt)
    have hrd : rd l (i : Int) = n v := by simp [rd, hlt, hv]
    have e1 : wrap64 ((i : Int) + 1) = ((i + 1 : Nat) : Int) := by unfold wrap64; omega
    have htl : (l.take i).length ≤ 200 := by rw [List.length_take]; omega
    have hk1 := keep_len false at_ (l.take i)
    have hk2 := keep_len true at_ (l.take i)
    have ec : ∀ c : Nat, c ≤ 200 → wrap64 ((c : Int) + 1) = ((c + 1 : Nat) : Int) := by intro c hc; unfold wrap64; omega
    rw [show 400 + (d + 1) = (400 + d) + 1 from by omega, counterpanelaw03_MixSplits.l0, if_pos (by omega), if_pos (by omega), hrd, side_bit v at_ _ (by omega), Option.bind_some, e1]
    have ihn := ih (i + 1) (by omega)
    cases hb : mix_Split.bit (n v) at_
    · obtain ⟨f1, f2, f3⟩ := keep_at false at_ hlt (by rw [hv]; exact hb)
      have f4 := keep_not true at_ hlt (by rw [hv]; exact hb)
      rw [f3, f4] at ihn
      rw [if_neg (by simp), if_neg (by omega), if_pos (by omega), if_pos (by omega), f2, hv, if_pos rfl, ec _ (by omega)]
      exact ihn
    · obtain ⟨f1, f2, f3⟩ := keep_at true at_ hlt (by rw [hv]; exact hb)
      have f4 := keep_not false at_ hlt (by rw [hv]; exact hb)
      rw [f3, f4] at ihn
      rw [if_pos rfl, if_neg (by omega), if_pos (by omega), if_pos (by omega), f2, hv, if_pos rfl, ec _ (by omega)]
      exact ihn
theorem MixSplits : counterpanelaw03_MixSplits.Pure := by
  intro l at_ a b _ _ hw _ ha hb
  obtain ⟨a, rfl⟩ := of_u64 ha
  obtain ⟨b, rfl⟩ := of_u64 hb
  by_cases h : (l.length : Int) > 200
  · exact ⟨90, by rw [counterpanelaw03_MixSplits.f, if_pos h, works_f 90 (by omega)]; rfl⟩
  · refine ⟨400 + l.length, ?_⟩
    rw [counterpanelaw03_MixSplits.f, if_neg h, mix_Split.f, if_pos (by omega), Option.bind_some]
    have := l0_end l at_ a b (by omega) (fun x hx => of_u64 (hw x hx)) l.length 0 (by omega)
    simpa [mix_Split.keep] using this

end Go.Proofs.Ytbmkkehbmkcinaa.Pure
