/-
  No cell of these rows narrows 'for every input' (looked for: loops, veiled, ifaces, maps, wideKeys, modest, calm, conditions, laid).
  DERIVED. THE GIVEN ROWS OF THIS SEAT. 3 by the template 'for every input the law returns true; each argument reads behind the call as it read before'; 0 by the template 'total and deterministic' (their statements: YtgnbdegpljbckaaTotals.lean).
  GIVEN WITH THE SEED: the statements are not yours to turn. If you find one false, say at which input.
  Laid BY PROGRAM, IN A SANDBOX (cutbox-rows.mjs): the forced cells as the released guide's own fill.sh prints them over the translation 86703502d941cd70… (all of the seat's roots in one cut). By AI agents, Wed Nov 11 2026. No macro, syntax, notation, axiom, sorry.
-/
import Derived.Test.YtgnbdegpljbckaaChecked
import GoSem.Claim
import GoSem.ClaimJoined
import GoSem.ClaimMapViews
import Derived.JoinedTies
import Derived.KernelRfl
namespace Go.Proofs.Ytgnbdegpljbckaa
/- THE CELL 'sum', in the pinned program and in every row, IS THE sha256 OF THE DUMP (.gsa) THAT YtgnbdegpljbckaaProg.lean LOADS. Nothing in Lean hashes anything: it is a label: what it is worth is what the hold of that sum in a sandbox is worth. -/
noncomputable def Try.pinned : Pinned := { name := "ytgnbdegpljbckaa", sum := "86703502d941cd703905011a8006326baeb694467e2d8001a33a7a329ae1d34b", checked := Try.checked }
namespace Rows
def none {H : Type} : Left H := { results := [], args := [] }

/-- 'counterpanelaw29.SpansMakes': WHATEVER THE INPUT: true; the input reads as it did. -/
def spansMakesSpec : ChangeSpec := { name := "spansMakes", fn := fun _ => fun
  | [d1, d2, d3] => { results := [.lit (.bool true)], args := [d1, d2, d3] }
  | _ => none }
def spansMakesRow : OpenClaim := { program := "ytgnbdegpljbckaa", sum := "86703502d941cd703905011a8006326baeb694467e2d8001a33a7a329ae1d34b", func := "counterpane/counterpanelaw29.SpansMakes", spec := "spansMakes", unfollowed := true, recurses := true, apart := false }
def SpansMakesSaid : Prop := spansMakesRow.holds Try.pinned (OpenSpec.ofChange spansMakesSpec)

/-- ITS FALSE NEIGHBOUR: 'it returns false'. Refute it at one input. -/
def spansMakesWrong : ChangeSpec := { name := "spansMakes", fn := fun _ => fun
  | [d1, d2, d3] => { results := [.lit (.bool false)], args := [d1, d2, d3] }
  | _ => none }
def SpansMakesWrongFalsely : Prop := spansMakesRow.holds Try.pinned (OpenSpec.ofChange spansMakesWrong)

/-- 'counterpanelaw29.SpansReads': WHATEVER THE INPUT: true; the input reads as it did. -/
def spansReadsSpec : ChangeSpec := { name := "spansReads", fn := fun _ => fun
  | [d1, d2] => { results := [.lit (.bool true)], args := [d1, d2] }
  | _ => none }
def spansReadsRow : OpenClaim := { program := "ytgnbdegpljbckaa", sum := "86703502d941cd703905011a8006326baeb694467e2d8001a33a7a329ae1d34b", func := "counterpane/counterpanelaw29.SpansReads", spec := "spansReads", unfollowed := true, recurses := true, apart := false }
def SpansReadsSaid : Prop := spansReadsRow.holds Try.pinned (OpenSpec.ofChange spansReadsSpec)

/-- ITS FALSE NEIGHBOUR: 'it returns false'. Refute it at one input. -/
def spansReadsWrong : ChangeSpec := { name := "spansReads", fn := fun _ => fun
  | [d1, d2] => { results := [.lit (.bool false)], args := [d1, d2] }
  | _ => none }
def SpansReadsWrongFalsely : Prop := spansReadsRow.holds Try.pinned (OpenSpec.ofChange spansReadsWrong)

/-- 'counterpanelaw29.SpansLaws': WHATEVER THE INPUT: true; the input reads as it did. -/
def spansLawsSpec : ChangeSpec := { name := "spansLaws", fn := fun _ => fun
  | [d1, d2, d3] => { results := [.lit (.bool true)], args := [d1, d2, d3] }
  | _ => none }
def spansLawsRow : OpenClaim := { program := "ytgnbdegpljbckaa", sum := "86703502d941cd703905011a8006326baeb694467e2d8001a33a7a329ae1d34b", func := "counterpane/counterpanelaw29.SpansLaws", spec := "spansLaws", unfollowed := true, recurses := true, apart := false }
def SpansLawsSaid : Prop := spansLawsRow.holds Try.pinned (OpenSpec.ofChange spansLawsSpec)

/-- ITS FALSE NEIGHBOUR: 'it returns false'. Refute it at one input. -/
def spansLawsWrong : ChangeSpec := { name := "spansLaws", fn := fun _ => fun
  | [d1, d2, d3] => { results := [.lit (.bool false)], args := [d1, d2, d3] }
  | _ => none }
def SpansLawsWrongFalsely : Prop := spansLawsRow.holds Try.pinned (OpenSpec.ofChange spansLawsWrong)

/- THE SECOND FORM. 'bulk': how many values and letters a reading holds, each counted each time it is reached (what is shared counts as often as it is met; a slice's spare places count too). A statement '..UptoSaid' is the law's where the arguments, and the package variables that the reading takes, are together of bulk at most 1048576: NARROWER than '..Said'. Prove '..Said' where nothing that the law and all that it calls make is longer than what came in: it says more and counts as full. Else prove '..UptoSaid'. A law counts once. -/
mutual
def uptoBulk {H : Type} : DataW H → Nat
  | .lit (.string bytes) => bytes.length + 1
  | .lit _ => 1
  | .nil => 1
  | .ptr d => uptoBulk d + 1
  | .slice elems spare => uptoBulkAll elems + uptoBulkAll spare + 1
  | .agg parts => uptoBulkAll parts + 1
  | .iface _ d => uptoBulk d + 1
  | .map entries => uptoBulkEntries entries + 1
  | .held _ => 1
def uptoBulkAll {H : Type} : List (DataW H) → Nat
  | [] => 0
  | d :: r => uptoBulk d + uptoBulkAll r
def uptoBulkEntries {H : Type} : List (Lit × DataW H) → Nat
  | [] => 0
  | x :: r => uptoBulkEntry x + uptoBulkEntries r
def uptoBulkEntry {H : Type} : Lit × DataW H → Nat
  | (.string bytes, d) => bytes.length + uptoBulk d + 1
  | (_, d) => uptoBulk d + 1
 end
def uptoSmall : (H : Type) → List (DataW H) → Bool := fun _ ds => decide (uptoBulkAll ds ≤ 1048576)
def OpenSpec.upto (s : _root_.Go.ChangeSpec) : _root_.Go.OpenSpec := { _root_.Go.OpenSpec.ofChange s with cond := some uptoSmall }

/-- 'counterpanelaw29.SpansMakes', WHERE WHAT IT READS IS OF BULK AT MOST 1048576: true; the input reads as it did. -/
def spansMakesUptoRow : OpenClaim := { program := "ytgnbdegpljbckaa", sum := "86703502d941cd703905011a8006326baeb694467e2d8001a33a7a329ae1d34b", func := "counterpane/counterpanelaw29.SpansMakes", spec := "spansMakes", unfollowed := true, recurses := true, apart := false, narrowed := true }
def SpansMakesUptoSaid : Prop := spansMakesUptoRow.holds Try.pinned (OpenSpec.upto spansMakesSpec)

/-- 'counterpanelaw29.SpansReads', WHERE WHAT IT READS IS OF BULK AT MOST 1048576: true; the input reads as it did. -/
def spansReadsUptoRow : OpenClaim := { program := "ytgnbdegpljbckaa", sum := "86703502d941cd703905011a8006326baeb694467e2d8001a33a7a329ae1d34b", func := "counterpane/counterpanelaw29.SpansReads", spec := "spansReads", unfollowed := true, recurses := true, apart := false, narrowed := true }
def SpansReadsUptoSaid : Prop := spansReadsUptoRow.holds Try.pinned (OpenSpec.upto spansReadsSpec)

/-- 'counterpanelaw29.SpansLaws', WHERE WHAT IT READS IS OF BULK AT MOST 1048576: true; the input reads as it did. -/
def spansLawsUptoRow : OpenClaim := { program := "ytgnbdegpljbckaa", sum := "86703502d941cd703905011a8006326baeb694467e2d8001a33a7a329ae1d34b", func := "counterpane/counterpanelaw29.SpansLaws", spec := "spansLaws", unfollowed := true, recurses := true, apart := false, narrowed := true }
def SpansLawsUptoSaid : Prop := spansLawsUptoRow.holds Try.pinned (OpenSpec.upto spansLawsSpec)

end Rows
end Go.Proofs.Ytgnbdegpljbckaa
