/- Walks by the logic of values. -/
import Derived.Test.YtggeejghchnpaaaKrVmT
import Derived.Test.YtggeejghchnpaaaKrVmP
import Derived.Test.YtggeejghchnpaaaKrVmV
import Derived.Test.YtggeejghchnpaaaKrVmY
import Derived.Test.YtggeejghchnpaaaKrVa
import Derived.Test.YtggeejghchnpaaaKrVb
import Derived.Test.YtggeejghchnpaaaKrVc
import Derived.Test.YtggeejghchnpaaaKrVd
import Derived.Test.YtggeejghchnpaaaKrVe
import Derived.Test.YtggeejghchnpaaaKrVf
import Derived.Test.YtggeejghchnpaaaKrVg
import Derived.Test.YtggeejghchnpaaaKrVh
namespace Go.Proofs.Ytggeejghchnpaaa
open Go.Vm
set_option linter.unusedVariables false
set_option linter.unusedSimpArgs false
structure Hst (kf : Nat → Int) (h : Nat → Nat) (L M c : Nat) (m : List Itm) : Prop where
  rel : Rel kf h L m
  inj : InjH h L
  le : L ≤ M
  lt : ∀ j, j < M → h j < c
def kgF (kf : Nat → Int) (c : Nat) (x : Int) : Nat → Int := fun a => if a = c then x else kf a
theorem kgF_c (kf : Nat → Int) (c : Nat) (x : Int) : kgF kf c x c = x := if_pos rfl
theorem kgF_o {kf : Nat → Int} {c a : Nat} {x : Int} (h : a ≠ c) : kgF kf c x a = kf a := if_neg h
theorem fam_kg {kf : Nat → Int} {b : Nat → Box} {n0 c L : Nat} {h : Nat → Nat} {x : Int} (hf : ∀ a, a < c → b (n0 + a) = .cells (itC kf h L a)) : ∀ a, a < c → b (n0 + a) = .cells (itC (kgF kf c x) h L a) := fun a ha => by
  rw [hf a ha]; unfold itC; rw [kgF_o (by omega)]
theorem Hst.nil (kf : Nat → Int) (h : Nat → Nat) : Hst kf h 0 0 0 [] := ⟨⟨fun j _ h1 => by omega, rfl, List.Pairwise.nil, fun x hx => (by cases hx), fun j hj => by omega, fun x hx => (by cases hx)⟩, fun i j hi => by omega, Nat.le_refl _, fun j hj => by omega⟩
theorem Hst.put {kf : Nat → Int} {h : Nat → Nat} {L M c : Nat} {m : List Itm} {x : Int} (s : Hst kf h L M c m) : Hst (kgF kf c x) (upF (kgF kf c x) L (upd1 h L c) L) (L + 1) (L + 1) (c + 1) (insR m ⟨x, c⟩) := by
  have hc : ∀ j, j < L → h j < c := fun j hj => s.lt j (by have := s.le; omega)
  have hn : ¬ InH h L c := fun ⟨j, hj, e⟩ => by have := hc j hj; omega
  have r := (s.rel.congr (kg := kgF kf c x) fun y hy => by
    obtain ⟨j, hj, e⟩ := s.rel.out y hy
    have := hc j hj
    rw [kgF_o (by omega)]).put hn (f := L) (Nat.le_refl _)
  rw [kgF_c] at r
  exact ⟨r, put_inj s.inj hn, Nat.le_refl _, up_lt _ _ _ (by omega) (put_lt hc)⟩
theorem rmF_inj {kf : Nat → Int} {h : Nat → Nat} {L j : Nat} (hj : InjH h (L + 1)) (hl : j < L + 1) : InjH (rmF kf h L j) L := by
  unfold rmF
  split
  · exact dn_inj _ _ _ (by omega) (up_inj _ _ _ (by omega) (sw_injL hj hl))
  · exact fun a b ha hb e => hj a b (by omega) (by omega) e
theorem rmF_in {kf : Nat → Int} {h : Nat → Nat} {L j v : Nat} (hj : InjH h (L + 1)) (hl : j < L + 1) : InH (rmF kf h L j) L v ↔ InH h (L + 1) v ∧ v ≠ h j := by
  rw [← remove_in hj (show j ≤ L by omega)]
  unfold rmF
  split
  · rw [dn_in _ _ _ (by omega), up_in _ _ _ (by omega)]
  · obtain rfl : j = L := by omega
    rw [sw_same]
theorem rmF_hp {kf : Nat → Int} {h : Nat → Nat} {L j : Nat} (hp : HP kf h (L + 1)) (hl : j < L + 1) : HP kf (rmF kf h L j) L := by
  unfold rmF
  split
  · exact mend2 (remove_x hp (by omega)) (by omega) (Nat.le_refl _) (Nat.le_refl _)
  · exact fun i h0 h1 => hp i h0 (by omega)
theorem Hst.rm1 {kf : Nat → Int} {h : Nat → Nat} {L M c j : Nat} {m : List Itm} (s : Hst kf h (L + 1) M c m) (hl : j < L + 1) : Hst kf (rmF kf h L j) L M c (withR m (h j)) :=
  ⟨s.rel.without (up_nodup s.rel.up s.rel.key) ⟨j, hl, rfl⟩ (rmF_hp s.rel.hp hl) fun w => rmF_in s.inj hl, rmF_inj s.inj hl, by have := s.le; omega, rm_lt s.le hl s.lt⟩
theorem Hst.rm {kf : Nat → Int} {h : Nat → Nat} {L M c a : Nat} {m : List Itm} (s : Hst kf h L M c m) : Hst kf (rmH kf h L a) (rmN h L a) M c (withR m a) := by
  unfold rmH rmN
  split
  · rename_i q
    obtain ⟨j, hj, hjl, hja⟩ := pos_some (pos_iff.1 q)
    obtain ⟨L, rfl⟩ : ∃ z, L = z + 1 := ⟨L - 1, by omega⟩
    rw [hj, ← hja]; exact s.rm1 hjl
  · rename_i q
    have hn : wasR m a = false := by
      cases e : wasR m a with
      | false => rfl
      | true => exact absurd (pos_iff.2 (s.rel.in_iff.2 e)) q
    rw [withR_no hn]; exact s
theorem Hst.top {kf : Nat → Int} {h : Nat → Nat} {L M c : Nat} {m : List Itm} (s : Hst kf h L M c m) (h0 : 0 < L) : topK kf h L = (at' m 0).k ∧ withR m (h 0) = m.drop 1 := by
  obtain ⟨x, hx, hn, hk⟩ := s.rel.top h0
  cases m with
  | nil => cases hx
  | cons y m =>
    obtain rfl : y = x := by simpa using hx
    refine ⟨(if_neg (by omega)).trans hk.symm, ?_⟩
    have nd := up_nodup s.rel.up s.rel.key
    rw [List.map_cons, List.nodup_cons] at nd
    unfold withR
    rw [List.filter_cons_of_neg (by simp [hn]), List.drop_one, List.tail_cons, List.filter_eq_self]
    intro z hz
    refine decide_eq_true fun e => nd.1 ?_
    rw [hn, ← e]; exact List.mem_map.2 ⟨z, hz, rfl⟩
theorem Hst.pop {kf : Nat → Int} {h : Nat → Nat} {L M c : Nat} {m : List Itm} (s : Hst kf h L M c m) (h0 : 0 < L) : Hst kf (popH kf h L) (L - 1) M c (m.drop 1) := by
  rw [← (s.top h0).2]
  obtain ⟨L, rfl⟩ : ∃ z, L = z + 1 := ⟨L - 1, by omega⟩
  rw [show popH kf h (L + 1) = rmF kf h L 0 from if_neg (by omega)]
  exact s.rm1 (by omega)
theorem Hst.ch {kf : Nat → Int} {h : Nat → Nat} {L M c j : Nat} {m : List Itm} {x : Int} (s : Hst kf h L M c m) (hl : j < L) : Hst (kgF kf (h j) x) (chF (kgF kf (h j) x) h L j) L M c (insR (withR m (h j)) ⟨x, h j⟩) := by
  have hk : ∀ v, v ≠ h j → kf v = kgF kf (h j) x v := fun v hv => (kgF_o hv).symm
  have hin : ∀ v, InH (chF (kgF kf (h j) x) h L j) L v ↔ InH h L v := fun v => by
    unfold chF
    rw [dn_in _ _ _ (by have := ch_pos (kf := kgF kf (h j) x) (h := h) hl; omega), up_in _ _ _ hl]
  have hw : wasR m (h j) = true := s.rel.in_iff.1 ⟨j, hl, rfl⟩
  have nd := up_nodup s.rel.up s.rel.key
  refine ⟨⟨mend (change_x s.rel.hp s.inj hl hk) s.inj hl (Nat.le_refl _) (Nat.le_refl _), ?_, insR_up (withR_up s.rel.up) (fun y hy => (withR_mem.1 hy).2), fun y hy => ?_, fun i hi => ?_, fun y hy => ?_⟩, ?_, s.le, ch_lt s.le hl s.lt⟩
  · rw [insR_len, withR_len nd hw]; exact s.rel.len
  · rcases insR_mem.1 hy with rfl | hy
    · exact (kgF_c ..).symm
    · obtain ⟨h1, h2⟩ := withR_mem.1 hy
      rw [kgF_o h2]; exact s.rel.key y h1
  · obtain ⟨y, hy, e⟩ := wasR_iff.1 (s.rel.in_iff.1 ((hin _).1 ⟨i, hi, rfl⟩))
    by_cases q : y.n = h j
    · exact ⟨⟨x, h j⟩, insR_mem.2 (.inl rfl), q.symm.trans e⟩
    · exact ⟨y, insR_mem.2 (.inr (withR_mem.2 ⟨hy, q⟩)), e⟩
  · refine (hin y.n).2 ?_
    rcases insR_mem.1 hy with rfl | hy
    · exact ⟨j, hl, rfl⟩
    · exact s.rel.out y (withR_mem.1 hy).1
  · unfold chF
    exact dn_inj _ _ _ (by have := ch_pos (kf := kgF kf (h j) x) (h := h) hl; omega) (up_inj _ _ _ hl s.inj)
end Go.Proofs.Ytggeejghchnpaaa
