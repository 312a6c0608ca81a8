/-
  No cell of these rows narrows 'for every input' (looked for: loops, veiled, ifaces, maps, wideKeys, modest, calm, conditions, laid).
  DERIVED. THE GIVEN ROWS OF THIS SEAT. 5 by the template 'for every input the law returns true; each argument reads behind the call as it read before'; 0 by the template 'total and deterministic' (their statements: YtabkoclmhdnjfaaTotals.lean).
  GIVEN WITH THE SEED: the statements are not yours to turn. If you find one false, say at which input.
  Laid BY PROGRAM, IN A SANDBOX (cutbox-rows.mjs): the forced cells as the released guide's own fill.sh prints them over the translation 5105e0eec266fb8d… (all of the seat's roots in one cut). By AI agents, Wed Nov 11 2026. No macro, syntax, notation, axiom, sorry.
-/
import Derived.Test.YtabkoclmhdnjfaaChecked
import GoSem.Claim
import GoSem.ClaimJoined
import GoSem.ClaimMapViews
import Derived.JoinedTies
import Derived.KernelRfl
namespace Go.Proofs.Ytabkoclmhdnjfaa
/- THE CELL 'sum', in the pinned program and in every row, IS THE sha256 OF THE DUMP (.gsa) THAT YtabkoclmhdnjfaaProg.lean LOADS. Nothing in Lean hashes anything: it is a label: what it is worth is what the hold of that sum in a sandbox is worth. -/
noncomputable def Try.pinned : Pinned := { name := "ytabkoclmhdnjfaa", sum := "5105e0eec266fb8d20f6c43d19793479276d369f5eece9ce28537b8f3b28d0c8", checked := Try.checked }
namespace Rows
def none {H : Type} : Left H := { results := [], args := [] }

/-- 'counterpanelaw24.ZcodeBack': WHATEVER THE INPUT: true; the input reads as it did. -/
def zcodeBackSpec : ChangeSpec := { name := "zcodeBack", fn := fun _ => fun
  | [d1, d2, d3] => { results := [.lit (.bool true)], args := [d1, d2, d3] }
  | _ => none }
def zcodeBackRow : OpenClaim := { program := "ytabkoclmhdnjfaa", sum := "5105e0eec266fb8d20f6c43d19793479276d369f5eece9ce28537b8f3b28d0c8", func := "counterpane/counterpanelaw24.ZcodeBack", spec := "zcodeBack", apart := false }
def ZcodeBackSaid : Prop := zcodeBackRow.holds Try.pinned (OpenSpec.ofChange zcodeBackSpec)

/-- ITS FALSE NEIGHBOUR: 'it returns false'. Refute it at one input. -/
def zcodeBackWrong : ChangeSpec := { name := "zcodeBack", fn := fun _ => fun
  | [d1, d2, d3] => { results := [.lit (.bool false)], args := [d1, d2, d3] }
  | _ => none }
def ZcodeBackWrongFalsely : Prop := zcodeBackRow.holds Try.pinned (OpenSpec.ofChange zcodeBackWrong)

/-- 'counterpanelaw24.ZcodeLess': WHATEVER THE INPUT: true; the input reads as it did. -/
def zcodeLessSpec : ChangeSpec := { name := "zcodeLess", fn := fun _ => fun
  | [d1, d2, d3, d4] => { results := [.lit (.bool true)], args := [d1, d2, d3, d4] }
  | _ => none }
def zcodeLessRow : OpenClaim := { program := "ytabkoclmhdnjfaa", sum := "5105e0eec266fb8d20f6c43d19793479276d369f5eece9ce28537b8f3b28d0c8", func := "counterpane/counterpanelaw24.ZcodeLess", spec := "zcodeLess", apart := false }
def ZcodeLessSaid : Prop := zcodeLessRow.holds Try.pinned (OpenSpec.ofChange zcodeLessSpec)

/-- ITS FALSE NEIGHBOUR: 'it returns false'. Refute it at one input. -/
def zcodeLessWrong : ChangeSpec := { name := "zcodeLess", fn := fun _ => fun
  | [d1, d2, d3, d4] => { results := [.lit (.bool false)], args := [d1, d2, d3, d4] }
  | _ => none }
def ZcodeLessWrongFalsely : Prop := zcodeLessRow.holds Try.pinned (OpenSpec.ofChange zcodeLessWrong)

/-- 'counterpanelaw24.ZcodeNext': WHATEVER THE INPUT: true; the input reads as it did. -/
def zcodeNextSpec : ChangeSpec := { name := "zcodeNext", fn := fun _ => fun
  | [d1, d2, d3, d4] => { results := [.lit (.bool true)], args := [d1, d2, d3, d4] }
  | _ => none }
def zcodeNextRow : OpenClaim := { program := "ytabkoclmhdnjfaa", sum := "5105e0eec266fb8d20f6c43d19793479276d369f5eece9ce28537b8f3b28d0c8", func := "counterpane/counterpanelaw24.ZcodeNext", spec := "zcodeNext", apart := false }
def ZcodeNextSaid : Prop := zcodeNextRow.holds Try.pinned (OpenSpec.ofChange zcodeNextSpec)

/-- ITS FALSE NEIGHBOUR: 'it returns false'. Refute it at one input. -/
def zcodeNextWrong : ChangeSpec := { name := "zcodeNext", fn := fun _ => fun
  | [d1, d2, d3, d4] => { results := [.lit (.bool false)], args := [d1, d2, d3, d4] }
  | _ => none }
def ZcodeNextWrongFalsely : Prop := zcodeNextRow.holds Try.pinned (OpenSpec.ofChange zcodeNextWrong)

/-- 'counterpanelaw24.ZcodeCounts': WHATEVER THE INPUT: true; the input reads as it did. -/
def zcodeCountsSpec : ChangeSpec := { name := "zcodeCounts", fn := fun _ => fun
  | [d1, d2, d3, d4, d5, d6] => { results := [.lit (.bool true)], args := [d1, d2, d3, d4, d5, d6] }
  | _ => none }
def zcodeCountsRow : OpenClaim := { program := "ytabkoclmhdnjfaa", sum := "5105e0eec266fb8d20f6c43d19793479276d369f5eece9ce28537b8f3b28d0c8", func := "counterpane/counterpanelaw24.ZcodeCounts", spec := "zcodeCounts", apart := false }
def ZcodeCountsSaid : Prop := zcodeCountsRow.holds Try.pinned (OpenSpec.ofChange zcodeCountsSpec)

/-- ITS FALSE NEIGHBOUR: 'it returns false'. Refute it at one input. -/
def zcodeCountsWrong : ChangeSpec := { name := "zcodeCounts", fn := fun _ => fun
  | [d1, d2, d3, d4, d5, d6] => { results := [.lit (.bool false)], args := [d1, d2, d3, d4, d5, d6] }
  | _ => none }
def ZcodeCountsWrongFalsely : Prop := zcodeCountsRow.holds Try.pinned (OpenSpec.ofChange zcodeCountsWrong)

/-- 'counterpanelaw24.ZcodeWalks': WHATEVER THE INPUT: true; the input reads as it did. -/
def zcodeWalksSpec : ChangeSpec := { name := "zcodeWalks", fn := fun _ => fun
  | [d1, d2, d3, d4] => { results := [.lit (.bool true)], args := [d1, d2, d3, d4] }
  | _ => none }
def zcodeWalksRow : OpenClaim := { program := "ytabkoclmhdnjfaa", sum := "5105e0eec266fb8d20f6c43d19793479276d369f5eece9ce28537b8f3b28d0c8", func := "counterpane/counterpanelaw24.ZcodeWalks", spec := "zcodeWalks", apart := false }
def ZcodeWalksSaid : Prop := zcodeWalksRow.holds Try.pinned (OpenSpec.ofChange zcodeWalksSpec)

/-- ITS FALSE NEIGHBOUR: 'it returns false'. Refute it at one input. -/
def zcodeWalksWrong : ChangeSpec := { name := "zcodeWalks", fn := fun _ => fun
  | [d1, d2, d3, d4] => { results := [.lit (.bool false)], args := [d1, d2, d3, d4] }
  | _ => none }
def ZcodeWalksWrongFalsely : Prop := zcodeWalksRow.holds Try.pinned (OpenSpec.ofChange zcodeWalksWrong)

/- THE SECOND FORM. 'bulk': how many values and letters a reading holds, each counted each time it is reached (what is shared counts as often as it is met; a slice's spare places count too). A statement '..UptoSaid' is the law's where the arguments, and the package variables that the reading takes, are together of bulk at most 1048576: NARROWER than '..Said'. Prove '..Said' where nothing that the law and all that it calls make is longer than what came in: it says more and counts as full. Else prove '..UptoSaid'. A law counts once. -/
mutual
def uptoBulk {H : Type} : DataW H → Nat
  | .lit (.string bytes) => bytes.length + 1
  | .lit _ => 1
  | .nil => 1
  | .ptr d => uptoBulk d + 1
  | .slice elems spare => uptoBulkAll elems + uptoBulkAll spare + 1
  | .agg parts => uptoBulkAll parts + 1
  | .iface _ d => uptoBulk d + 1
  | .map entries => uptoBulkEntries entries + 1
  | .held _ => 1
def uptoBulkAll {H : Type} : List (DataW H) → Nat
  | [] => 0
  | d :: r => uptoBulk d + uptoBulkAll r
def uptoBulkEntries {H : Type} : List (Lit × DataW H) → Nat
  | [] => 0
  | x :: r => uptoBulkEntry x + uptoBulkEntries r
def uptoBulkEntry {H : Type} : Lit × DataW H → Nat
  | (.string bytes, d) => bytes.length + uptoBulk d + 1
  | (_, d) => uptoBulk d + 1
 end
def uptoSmall : (H : Type) → List (DataW H) → Bool := fun _ ds => decide (uptoBulkAll ds ≤ 1048576)
def OpenSpec.upto (s : _root_.Go.ChangeSpec) : _root_.Go.OpenSpec := { _root_.Go.OpenSpec.ofChange s with cond := some uptoSmall }

/-- 'counterpanelaw24.ZcodeBack', WHERE WHAT IT READS IS OF BULK AT MOST 1048576: true; the input reads as it did. -/
def zcodeBackUptoRow : OpenClaim := { program := "ytabkoclmhdnjfaa", sum := "5105e0eec266fb8d20f6c43d19793479276d369f5eece9ce28537b8f3b28d0c8", func := "counterpane/counterpanelaw24.ZcodeBack", spec := "zcodeBack", apart := false, narrowed := true }
def ZcodeBackUptoSaid : Prop := zcodeBackUptoRow.holds Try.pinned (OpenSpec.upto zcodeBackSpec)

/-- 'counterpanelaw24.ZcodeLess', WHERE WHAT IT READS IS OF BULK AT MOST 1048576: true; the input reads as it did. -/
def zcodeLessUptoRow : OpenClaim := { program := "ytabkoclmhdnjfaa", sum := "5105e0eec266fb8d20f6c43d19793479276d369f5eece9ce28537b8f3b28d0c8", func := "counterpane/counterpanelaw24.ZcodeLess", spec := "zcodeLess", apart := false, narrowed := true }
def ZcodeLessUptoSaid : Prop := zcodeLessUptoRow.holds Try.pinned (OpenSpec.upto zcodeLessSpec)

/-- 'counterpanelaw24.ZcodeNext', WHERE WHAT IT READS IS OF BULK AT MOST 1048576: true; the input reads as it did. -/
def zcodeNextUptoRow : OpenClaim := { program := "ytabkoclmhdnjfaa", sum := "5105e0eec266fb8d20f6c43d19793479276d369f5eece9ce28537b8f3b28d0c8", func := "counterpane/counterpanelaw24.ZcodeNext", spec := "zcodeNext", apart := false, narrowed := true }
def ZcodeNextUptoSaid : Prop := zcodeNextUptoRow.holds Try.pinned (OpenSpec.upto zcodeNextSpec)

/-- 'counterpanelaw24.ZcodeCounts', WHERE WHAT IT READS IS OF BULK AT MOST 1048576: true; the input reads as it did. -/
def zcodeCountsUptoRow : OpenClaim := { program := "ytabkoclmhdnjfaa", sum := "5105e0eec266fb8d20f6c43d19793479276d369f5eece9ce28537b8f3b28d0c8", func := "counterpane/counterpanelaw24.ZcodeCounts", spec := "zcodeCounts", apart := false, narrowed := true }
def ZcodeCountsUptoSaid : Prop := zcodeCountsUptoRow.holds Try.pinned (OpenSpec.upto zcodeCountsSpec)

/-- 'counterpanelaw24.ZcodeWalks', WHERE WHAT IT READS IS OF BULK AT MOST 1048576: true; the input reads as it did. -/
def zcodeWalksUptoRow : OpenClaim := { program := "ytabkoclmhdnjfaa", sum := "5105e0eec266fb8d20f6c43d19793479276d369f5eece9ce28537b8f3b28d0c8", func := "counterpane/counterpanelaw24.ZcodeWalks", spec := "zcodeWalks", apart := false, narrowed := true }
def ZcodeWalksUptoSaid : Prop := zcodeWalksUptoRow.holds Try.pinned (OpenSpec.upto zcodeWalksSpec)

end Rows
end Go.Proofs.Ytabkoclmhdnjfaa
