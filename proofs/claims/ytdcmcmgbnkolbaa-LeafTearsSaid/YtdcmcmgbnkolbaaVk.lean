/- Walks of the leaf, by the logic of values. -/
import Derived.Test.YtdcmcmgbnkolbaaVj
import Derived.Test.YtdcmcmgbnkolbaaVmL
namespace Go.Proofs.Ytdcmcmgbnkolbaa
open Go.Vm
set_option linter.unusedVariables false
set_option linter.unusedSimpArgs false
theorem new_ok2 (m : Nat) (h1 : 1 ≤ m) (h2 : m ≤ 16384) (k1 k2 : Nat) (hkk : k1 ≠ k2) : Does Try.prog 12 [.sc (.int .i64 m)] [(k1, .dead), (k2, .dead)] [(k2, .cells ((zS m).flatten.map bV)), (k1, .cells [.msl k2 0 (zS m).length (zS m).length 64, .sc (.int .i64 (0)), .sc (.int .i64 (-1)), .sl 1 (boolsV ([])), .sc (.bool (false))])] (.tup [.ref k1 0, .sc (.int .i64 0)]) := by
  simp only [zS_len]
  exact new_ok m h1 h2 k1 k2 hkk
theorem okZ (m : Nat) (h2 : m ≤ 16384) : okS ⟨zS m, 0, -1, [], false⟩ := ⟨zS_row m, by show (zS m).length ≤ 16384; rw [zS_len]; exact h2, by simp, by simp, by simp⟩
theorem fillP_len (a b : Int) : (fillP a b).length = 224 := by simp only [fillP, List.length_cons, List.length_replicate]
theorem out_in {m : Nat} {ba nn x : Int} (hx : IntKind.i64.wrap (ba + nn * 4) = x) (hba : I64 ba) (h0 : 0 ≤ nn) (h1 : 0 ≤ ba) (h2 : nn ≤ m) (hm : m ≤ 60) (hnf : ¬ (ba ≤ m - 4 ∧ 4 * nn ≤ m - 4 - ba)) : insideB (zS m).length x 4 = false := by
  rw [zS_len]
  unfold I64 at hba
  apply decide_eq_false
  subst hx
  unfold IntKind.wrap
  simp [IntKind.signed, IntKind.bits]
  split <;> omega
theorem room_w (k1 k2 : Nat) (m : Nat) (hkk : k1 ≠ k2) (hm : m ≤ 60) (ba nn : Int) (hba : I64 ba) (hnn : I64 nn) (p : List Int) (hp : p.length = 224) (v : Int) (hv : U64 v) (h0 : 0 ≤ nn) (h1 : 0 ≤ ba) (h2 : nn ≤ m) (hnf : ¬ (ba ≤ m - 4 ∧ 4 * nn ≤ m - 4 - ba)) :
    Does Try.prog 13 [.ref k1 0, .sc (.int .i64 ba), .sc (.int .i64 nn), .agg (p.map bV), .sc (.int .u64 v)] [(k1, .cells [.msl k2 0 (zS m).length (zS m).length 64, .sc (.int .i64 (0)), .sc (.int .i64 (-1)), .sl 1 (boolsV ([])), .sc (.bool (false))]), (k2, .cells ((zS m).flatten.map bV))] [(k2, .cells ((zS m).flatten.map bV)), (k1, .cells [.msl k2 0 (zS m).length (zS m).length 64, .sc (.int .i64 (0)), .sc (.int .i64 (-1)), .sl 1 (boolsV ([])), .sc (.bool (false))])] (.sc (.int .i64 2)) := by
  have hi := out_in rfl hba h0 h1 h2 hm hnf
  have h := lw_ok k1 k2 ⟨zS m, 0, -1, [], false⟩ hkk (okZ m (by omega)) ba nn hba hnn p hp v hv h0 h1 (by show nn ≤ ((zS m).length : Int); rw [zS_len]; exact h2) _ rfl
  have hl : ((putS p v 4).length : Int) = 4 := by rw [putS_len]; rfl
  have e1 : stepW ⟨zS m, 0, -1, [], false⟩ (IntKind.i64.wrap (ba + nn * 4)) (putS p v 4) = ⟨zS m, 0, -1, [], false⟩ := by unfold stepW; rw [if_neg]; intro hc; rw [hl, hi] at hc; cases hc.1
  have e2 : codeW ⟨zS m, 0, -1, [], false⟩ (IntKind.i64.wrap (ba + nn * 4)) (putS p v 4) = 2 := by unfold codeW; rw [if_neg]; intro hc; rw [hl, hi] at hc; cases hc
  rw [e1, e2] at h
  exact h
theorem room_r (k1 k2 : Nat) (m : Nat) (hkk : k1 ≠ k2) (hm : m ≤ 60) (ba nn : Int) (hba : I64 ba) (hnn : I64 nn) (h0 : 0 ≤ nn) (h1 : 0 ≤ ba) (h2 : nn ≤ m) (hnf : ¬ (ba ≤ m - 4 ∧ 4 * nn ≤ m - 4 - ba)) :
    Does Try.prog 15 [.ref k1 0, .sc (.int .i64 ba), .sc (.int .i64 nn)] [(k1, .cells [.msl k2 0 (zS m).length (zS m).length 64, .sc (.int .i64 (0)), .sc (.int .i64 (-1)), .sl 1 (boolsV ([])), .sc (.bool (false))]), (k2, .cells ((zS m).flatten.map bV))] [] (.tup [.agg (zP.map bV), .sc (.int .u64 0), .sc (.bool false), .sc (.int .i64 2)]) := by
  have hi := out_in rfl hba h0 h1 h2 hm hnf
  have e2 : codeR ⟨zS m, 0, -1, [], false⟩ (IntKind.i64.wrap (ba + nn * 4)) 4 = 2 := by unfold codeR; rw [if_neg]; intro hc; rw [hi] at hc; cases hc
  have h := lr_err k1 k2 ⟨zS m, 0, -1, [], false⟩ hkk (okZ m (by omega)) ba nn hba hnn h0 h1 (by show nn ≤ ((zS m).length : Int); rw [zS_len]; exact h2) _ rfl (by rw [e2]; decide)
  rw [e2] at h
  exact h

end Go.Proofs.Ytdcmcmgbnkolbaa
