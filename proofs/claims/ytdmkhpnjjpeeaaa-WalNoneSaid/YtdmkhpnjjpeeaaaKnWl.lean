/- WalNone, of all that a law is handed. -/
import Derived.Test.YtdmkhpnjjpeeaaaKnVmL
import Derived.Test.YtdmkhpnjjpeeaaaKnVmJ
namespace Go.Proofs.Ytdmkhpnjjpeeaaa.PAll
open Go.Vm Go.ChangeShapes Go.WideShapes Go.ChangeAt Go.RowKit
set_option linter.unusedVariables false
theorem wf_I64 {n : Int} (h : (Lit.int .i64 n).wf = true) : -9223372036854775808 ≤ n ∧ n ≤ 9223372036854775807 := by
  simp [Lit.wf, IntKind.min, IntKind.max, IntKind.signed, IntKind.bits] at h
  omega
theorem counterpanelaw09_WalNone.walk0 (W : World) (a0 : Int) (w0 : (Lit.int .i64 a0).wf = true) (a1 : Int) (w1 : (Lit.int .i64 a1).wf = true) (a2 : Int) (w2 : (Lit.int .i64 a2).wf = true) :
    Calls Try.prog 4 #[.int .i64 a0, .int .i64 a1, .int .i64 a2] W fun e w' => e = .returned (.bool true) ∧ Below W.heap.size W w' := by
  have h0 := wf_I64 w0
  have h1 := wf_I64 w1
  have h2 := wf_I64 w2
  have hr : RowRep (X0 W) [.sc (.int .i64 a0), .sc (.int .i64 a1), .sc (.int .i64 a2)] (#[Value.int .i64 a0, Value.int .i64 a1, Value.int .i64 a2] : Array Value).toList := row_cons (by simp [VRep]) (row_cons (by simp [VRep]) (row_cons (by simp [VRep]) row_nil))
  by_cases h : a0 < 1 ∨ a0 > 60
  · exact (none_l a0 a1 a2 h).law W _ hr
  · obtain ⟨L, rfl⟩ : ∃ L : Nat, a0 = L := ⟨a0.toNat, by omega⟩
    by_cases h3 : a1 < 0 ∨ a2 < 1 ∨ a1 > L ∨ a2 > L - a1
    · exact (none_no L a1 a2 (by omega) h1 h2 h3).law W _ hr
    · obtain ⟨b, rfl⟩ : ∃ b : Nat, a1 = b := ⟨a1.toNat, by omega⟩
      obtain ⟨sz, rfl⟩ : ∃ sz : Nat, a2 = sz := ⟨a2.toNat, by omega⟩
      exact (none_ok L b sz (by omega) (by omega)).law W _ hr
end Go.Proofs.Ytdmkhpnjjpeeaaa.PAll

