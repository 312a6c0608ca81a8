/- slices.Delete of one point, in a slice of one's own (after the kit's walk of slices.Delete at numbers). -/
import Derived.Test.YtldlmmpniddbcaaKpVc
import Derived.Test.YtldlmmpniddbcaaKpVmM
import Derived.Shelf.RegionOpenPlain
import Derived.WalkKit
import Derived.Deep.LoopGhost
import Derived.Deep.RegionLaw
import Derived.Lib.Walk
import Derived.Lib.SliceRun
namespace Go.Proofs.Ytldlmmpniddbcaa
open Go.Vm Go.RowKit Go.Shelf
set_option linter.unusedVariables false
set_option linter.unusedSimpArgs false
theorem one' {v : Value} (h : oneV v = true) : v.oneCell' = true := by cases v <;> simp_all [oneV, Value.oneCell']
/-- What storing values into a block leaves. -/
theorem sc_props {b q : Nat} {vs us : List Value} {ty : TypeId} {w : World} (h : w.heap[b]? = some (.cells us.toArray ty (0, 0))) (hl : q + vs.length ≤ us.length) (h1 : ∀ x ∈ vs, oneV x = true) :
    (w.setCells b q vs).os = w.os ∧ (w.setCells b q vs).tape = w.tape ∧ (w.setCells b q vs).output = w.output ∧ (w.setCells b q vs).heap.size = w.heap.size ∧ (∀ b', b' ≠ b → (w.setCells b q vs).heap[b']? = w.heap[b']?) ∧
      (w.setCells b q vs).heap[b]? = some (.cells (us.take q ++ vs ++ us.drop (q + vs.length)).toArray ty (0, 0)) := by
  obtain ⟨w', k1, k2, k3, k4, k5, k6, k7⟩ := run_storeCells (P := Try.prog) vs q 0 w us ty h (by simpa using hl) h1
  have hc : ∀ j, j < vs.length → w.cell? ⟨b, q + j, none⟩ = some (us.getD (q + j) undef) := fun j hj => by
    rw [cell_some h, List.getD_eq_getElem?_getD, List.getElem?_eq_getElem (by omega)]; rfl
  have e := run_storeCells_cells (P := Try.prog) b q vs 0 w (fun j hj => by rw [Nat.add_zero, hc j hj]; rfl) (fun j hj => by simp [World.frozen?, h]) (fun v hv => one' (h1 v hv))
  rw [k1, Nat.add_zero] at e
  have e' : w' = w.setCells b q vs := by injection e
  rw [← e']
  exact ⟨k2, k3, k4, k5, k6, by simpa using k7⟩
def z6 : List Value := [.int .u64 0, .int .u64 0, .int .u32 0, .int .u32 0, .string ByteArray.empty, .bool false]
theorem clear6 {b q n c : Nat} {us : List Value} {ty : TypeId} {w : World} (tz : TypeId) (h : w.heap[b]? = some (.cells us.toArray ty (0, 0))) (hl : q + 6 ≤ us.length) (hn : n = 1) :
    (Builtin.clear_ #[27] tz #[.slice (some ⟨b, q, none⟩) n c]).run Try.prog w = .ok (.tuple #[]) (w.setCells b q z6) := by
  subst hn
  have hc : ∀ j, j < z6.length → w.cell? ⟨b, q + j, none⟩ = some (us.getD (q + j) undef) := fun j hj => by
    have : z6.length = 6 := rfl
    rw [cell_some h, List.getD_eq_getElem?_getD, List.getElem?_eq_getElem (by omega)]; rfl
  have e := run_storeCells_cells (P := Try.prog) b q z6 0 w (fun j hj => by rw [Nat.add_zero, hc j hj]; rfl) (fun j hj => by simp [World.frozen?, h]) (fun v hv => by simp [z6] at hv; rcases hv with rfl | rfl | rfl | rfl <;> rfl)
  rw [Nat.add_zero] at e
  have hz : ∀ w, (zeroValue 52).run Try.prog w = .ok (.agg z6.toArray) w := fun w => by
    exact run_zero F.zero52 w
  unfold Builtin.clear_
  simp [run_under Try.underlying27, hz]
  have e2 : (Builtin.zeroCells (Value.agg z6.toArray).cells 1).toList = z6 := by kernel_rfl
  rw [e2, e]; rfl
set_option maxHeartbeats 4000000 in
set_option maxRecDepth 1000000 in
theorem del_raw (b len cap i : Nat) (us rest : List Value) (ty : TypeId) (w : World) (hb : w.heap[b]? = some (.cells (us ++ rest).toArray ty (0, 0))) (hl : us.length = len * 6) (hcap : len ≤ cap) (hsz : cap * 6 ≤ (us ++ rest).length) (hi : i < len) (h1 : ∀ x ∈ us, oneV x = true) :
    Calls Try.prog 37 #[.slice (some ⟨b, 0, none⟩) len cap, .int .i64 i, .int .i64 ((i : Int) + 1)] w fun e w' => e = .returned (.slice (some ⟨b, 0, none⟩) (len - 1) cap) ∧ w'.os = w.os ∧ w'.tape = w.tape ∧ w'.output = w.output ∧ w'.heap.size = w.heap.size ∧ (∀ b', b' ≠ b → w'.heap[b']? = w.heap[b']?) ∧
      w'.heap[b]? = some (.cells ((us.take (i * 6) ++ us.drop ((i + 1) * 6)) ++ (z6 ++ rest)).toArray ty (0, 0)) := by
  obtain ⟨i0, hi0, hz0, hz1, hz2⟩ := info_parts (P := Try.prog) (e := 52) (z := .agg z6.toArray) (size := 6) (bytes := 48) (by kernel_rfl)
  have t27 := Try.underlying27
  obtain ⟨m, hm⟩ : ∃ m, len = i + 1 + m := ⟨len - (i + 1), by omega⟩
  subst hm
  obtain ⟨news, hnews⟩ : ∃ news, news = us.drop ((i + 1) * 6) := ⟨_, rfl⟩
  have hnl : news.length = m * 6 := by rw [hnews, List.length_drop, hl]; omega
  have hbd : w.drew.heap[b]? = some (.cells (us ++ rest).toArray ty (0, 0)) := hb
  have hlr : (us ++ rest).length = us.length + rest.length := List.length_append
  have hget : ∀ t u, news[t]? = some u → w.drew.cell? ⟨b, (i + 1) * 6 + t, none⟩ = some u := by
    intro t u hu
    have ht : t < m * 6 := by rw [← hnl]; exact (List.getElem?_eq_some_iff.1 hu).1
    rw [cell_some hbd, List.getElem?_append_left (by omega)]
    rw [hnews, List.getElem?_drop] at hu
    exact hu
  obtain ⟨A, hA, hsrc⟩ : ∃ A : Addr, (if cap = i + 1 then some (⟨b, 0, none⟩ : Addr) else some ⟨b, (i + 1) * 6, none⟩) = some A ∧ Hid (∀ t u, news[t]? = some u → w.drew.cell? (A.add t) = some u) := by
    by_cases h : cap = i + 1
    · refine ⟨⟨b, 0, none⟩, by simp [h], fun t u hu => ?_⟩
      have h0 : news.length = 0 := by rw [hnl]; omega
      rw [List.length_eq_zero_iff.1 h0] at hu
      simp at hu
    · refine ⟨⟨b, (i + 1) * 6, none⟩, by simp [h], fun t u hu => ?_⟩
      rw [addr_add]; exact hget t u hu
  have s1 : Hid (news.length = m * 6) := hnl
  have s2 : Hid (∀ u ∈ news, u.oneCell' = true) := fun u hu => one' (h1 u (List.mem_of_mem_drop (hnews ▸ hu)))
  have s3 : Hid (∀ t, t < news.length → (w.drew.cell? ⟨b, 0 + i * 6 + t, none⟩).isSome = true ∧ w.drew.frozen? ⟨b, 0 + i * 6 + t, none⟩ = false) := by
    intro t ht
    rw [hnl] at ht
    refine ⟨?_, by simp [World.frozen?, hbd]⟩
    rw [cell_some hbd, List.getElem?_eq_getElem (by omega)]; rfl
  obtain ⟨W1, hW1⟩ : ∃ W1, W1 = w.drew.setCells b (0 + i * 6) news := ⟨_, rfl⟩
  have P1 := sc_props (w := w.drew) (q := 0 + i * 6) (vs := news) hbd (by omega) (fun x hx => h1 x (List.mem_of_mem_drop (hnews ▸ hx)))
  rw [← hW1] at P1
  obtain ⟨W2, hW2⟩ : ∃ W2, W2 = W1.setCells b ((i + m) * 6) z6 := ⟨_, rfl⟩
  have hW1l : ((us ++ rest).take (0 + i * 6) ++ news ++ (us ++ rest).drop (0 + i * 6 + news.length)).length = (us ++ rest).length := by
    simp only [List.length_append, List.length_take, List.length_drop]; omega
  have P2 := sc_props (w := W1) (q := (i + m) * 6) (vs := z6) P1.2.2.2.2.2 (by rw [hW1l]; have : z6.length = 6 := rfl; omega) (fun x hx => by simp [z6] at hx; rcases hx with rfl | rfl | rfl | rfl <;> rfl)
  rw [← hW2] at P2
  have hcl : ∀ tz, (Builtin.clear_ #[27] tz #[.slice (some ⟨b, (i + m) * 6, none⟩) (i + 1 + m - (i + m)) (cap - (i + m))]).run Try.prog W1 = .ok (.tuple #[]) W2 := fun tz => by
    rw [hW2]; exact clear6 tz P1.2.2.2.2.2 (by rw [hW1l]; omega) (by omega)
  have hfin : Hid (W2.os = w.os ∧ W2.tape = w.tape ∧ W2.output = w.output ∧ W2.heap.size = w.heap.size ∧ (∀ b', b' ≠ b → W2.heap[b']? = w.heap[b']?) ∧
      W2.heap[b]? = some (.cells ((us.take (i * 6) ++ us.drop ((i + 1) * 6)) ++ (z6 ++ rest)).toArray ty (0, 0))) := by
    refine ⟨P2.1.trans P1.1, P2.2.1.trans P1.2.1, P2.2.2.1.trans P1.2.2.1, P2.2.2.2.1.trans P1.2.2.2.1, fun b' hb' => (P2.2.2.2.2.1 b' hb').trans (P1.2.2.2.2.1 b' hb'), ?_⟩
    rw [P2.2.2.2.2.2]
    have e0 : (us ++ rest).take (0 + i * 6) = us.take (i * 6) := by rw [Nat.zero_add, List.take_append_of_le_length (by omega)]
    have e1 : (us.take (i * 6)).length = i * 6 := by rw [List.length_take]; omega
    have e2 : ∀ T : List Value, (us.take (i * 6) ++ news ++ T).take ((i + m) * 6) = us.take (i * 6) ++ news := fun T => by
      rw [List.take_append_of_le_length (by rw [List.length_append, e1, hnl]; omega), List.take_of_length_le (by rw [List.length_append, e1, hnl]; omega)]
    have e3 : ((us ++ rest).drop (0 + i * 6 + news.length)).drop 6 = rest := by
      rw [List.drop_drop, hnl, show 0 + i * 6 + m * 6 + 6 = us.length by omega, List.drop_left]
    have e4 : ∀ T : List Value, (us.take (i * 6) ++ news ++ T).drop ((i + m) * 6 + 6) = T.drop 6 := fun T => by
      rw [show (i + m) * 6 + 6 = (us.take (i * 6) ++ news).length + 6 by (rw [List.length_append, e1, hnl]; omega), List.drop_append, List.drop_eq_nil_of_le (by omega)]
      simp
    rw [e0, e2, show z6.length = 6 from rfl, e4, e3, hnews, List.append_assoc (us.take (i * 6) ++ us.drop ((i + 1) * 6))]
  have hW : Hid (W1 = w.drew.setCells b (0 + i * 6) news) := hW1
  have hic : i ≤ cap := by omega
  have hjc : i + 1 ≤ cap := by omega
  have hne : ¬ (i : Int) = (i : Int) + 1 := by omega
  have mixed : Try.prog.follows .mixedOrders = true := by kernel_rfl
  have hb1 : 0 ≤ (i : Int) + 1 ∧ (i : Int) + 1 ≤ (i : Int) + 1 + (m : Int) := by omega
  clear hW1 P1 P2 hget hnews hbd hb hW2 hW1l hnl h1
  go_enter Try.func37, Try.ntmps37
  go_wp2_with fail
  go_region_law_o (refine step_append_room rfl (.tmp 22) (.tmp 25) 27 rfl 52 i0 6 t27 hi0 hz1 b 0 i cap (by simp [Act.eval, Act.put]) A m (cap - (i + 1)) news (by simp [Act.eval, Act.put, show i + 1 + m - (i + 1) = m by omega, hA]) s1.out hsrc.out s2.out (by omega) s3.out ?_; rw [← hW.out])
  go_wp2
  go_ret
  exact ⟨by rw [show i + 1 + m - 1 = i + m by omega]; rfl, hfin.out⟩
theorem er_rows {l : List Rc} {i : Nat} : (l.eraseIdx i).map rcC = (((l.map rcC).drop 0).take i) ++ (((l.map rcC).drop (i + 1)).take (l.length - (i + 1))) := by
  rw [List.eraseIdx_eq_take_drop_succ, List.map_append, List.map_take, List.map_drop, List.drop_zero, List.take_of_length_le (l := (l.map rcC).drop (i + 1)) (by simp)]
theorem delete_c (k v : Nat) (l : List Rc) (i : Nat) (hi : i < l.length) : Does Try.prog 37 [.gsl k v 0 l.length 6, .sc (.int .i64 (i : Int)), .sc (.int .i64 ((i : Int) + 1))] [(k, .gcells v 6 (l.map rcC))] [(k, .gcells (v + 1) 6 ((l.eraseIdx i).map rcC))] (.gsl k (v + 1) 0 (l.length - 1) 6) := by
  intro n X args hR hargs hpre hup
  have hk : X.bx k = .gcells v 6 (l.map rcC) := hpre (k, _) (by simp)
  simp only [RowRep] at hargs
  obtain ⟨u0, _, ha, hv0, u1, _, rfl, hv1, u2, _, rfl, hv2, rfl⟩ := hargs
  obtain ⟨c, us, rest, ty, k1, k2, k3, k4, k5, k6, k7, k8, k9⟩ := gsl_at hR hv0 hk (by simp) (by omega)
  simp only [VRep] at hv1 hv2
  subst k1 hv1 hv2
  obtain rfl : args = #[.slice (some ⟨X.bl k, 0, none⟩) l.length c, .int .i64 i, .int .i64 ((i : Int) + 1)] := by
    apply Array.toList_inj.1; rw [ha]
  rw [List.length_map] at k6
  refine (del_raw (X.bl k) l.length c i us rest ty X.w k4 k6 k2 (by simpa using k9) hi k7).mono ?_
  rintro en w' ⟨rfl, h1, h2, h3, h4, h5, h6⟩
  have hlt : (i + 1) * 6 ≤ us.length := by rw [k6]; omega
  have hz : z6.length = 6 := rfl
  obtain ⟨t1, t2⟩ := g_write (v' := v + 1) (rows' := (l.eraseIdx i).map rcC) (us' := us.take (i * 6) ++ us.drop ((i + 1) * 6)) (rest' := z6 ++ rest) hR hk k3 (by omega) rfl k4 h1 h2 h3 h4 h5 h6
    (by simp only [List.size_toArray, List.length_append, List.length_take, List.length_drop]; omega) (fun r hr => k8 r (by
      obtain ⟨q, hq, rfl⟩ := List.mem_map.1 hr
      exact List.mem_map.2 ⟨q, List.mem_of_mem_eraseIdx hq, rfl⟩))
    (by
      rw [er_rows, List.flatten_append]
      have r1 := rows_cut 0 i k5 k8
      have r2 := rows_cut (i + 1) (l.length - (i + 1)) k5 k8
      rw [Nat.zero_mul, List.drop_zero (l := us)] at r1
      rw [List.take_of_length_le (l := us.drop ((i + 1) * 6)) (by rw [List.length_drop]; omega)] at r2
      exact r1.append r2)
    (by rw [List.length_append, List.length_take, List.length_drop, List.length_map, List.length_eraseIdx_of_lt hi]; omega)
    (fun x hx => (List.mem_append.1 hx).elim (fun h => k7 x (List.mem_of_mem_take h)) (fun h => k7 x (List.mem_of_mem_drop h)))
  refine ⟨_, _, rfl, ?_, rfl, t1, t2, rfl⟩
  simp only [VRep]
  refine ⟨_, c, v + 1, 6, _, rfl, by omega, upd_eq _ _ _, Nat.le_refl _, fun _ => .inr ⟨by simp, k3, _, ty, h6, ?_⟩⟩
  simp only [List.size_toArray, List.length_append, List.length_take, List.length_drop] at k9 ⊢
  omega
end Go.Proofs.Ytldlmmpniddbcaa
