/-
  No cell of these rows narrows 'for every input' (looked for: loops, veiled, ifaces, maps, wideKeys, modest, calm, conditions, laid).
  DERIVED. THE GIVEN ROWS OF THIS SEAT. 3 by the template 'for every input the law returns true; each argument reads behind the call as it read before'; 0 by the template 'total and deterministic' (their statements: YthpkhecialkmmaaTotals.lean).
  GIVEN WITH THE SEED: the statements are not yours to turn. If you find one false, say at which input.
  Laid BY PROGRAM, IN A SANDBOX (cutbox-rows.mjs): the forced cells as the released guide's own fill.sh prints them over the translation 9f7a1772cd7622f0… (all of the seat's roots in one cut). By AI agents, Wed Nov 11 2026. No macro, syntax, notation, axiom, sorry.
-/
import Derived.Test.YthpkhecialkmmaaChecked
import GoSem.Claim
import GoSem.ClaimJoined
import GoSem.ClaimMapViews
import Derived.JoinedTies
import Derived.KernelRfl
namespace Go.Proofs.Ythpkhecialkmmaa
/- THE CELL 'sum', in the pinned program and in every row, IS THE sha256 OF THE DUMP (.gsa) THAT YthpkhecialkmmaaProg.lean LOADS. Nothing in Lean hashes anything: it is a label: what it is worth is what the hold of that sum in a sandbox is worth. -/
noncomputable def Try.pinned : Pinned := { name := "ythpkhecialkmmaa", sum := "9f7a1772cd7622f048be16bcfa5a3ab51e24da139ad20fb8421940da71cb37cd", checked := Try.checked }
namespace Rows
def none {H : Type} : Left H := { results := [], args := [] }

/-- 'counterpanelaw20.NeedTells': WHATEVER THE INPUT: true; the input reads as it did. -/
def needTellsSpec : ChangeSpec := { name := "needTells", fn := fun _ => fun
  | [d1, d2, d3, d4] => { results := [.lit (.bool true)], args := [d1, d2, d3, d4] }
  | _ => none }
def needTellsRow : OpenClaim := { program := "ythpkhecialkmmaa", sum := "9f7a1772cd7622f048be16bcfa5a3ab51e24da139ad20fb8421940da71cb37cd", func := "counterpane/counterpanelaw20.NeedTells", spec := "needTells", unfollowed := true, recurses := true, apart := false }
def NeedTellsSaid : Prop := needTellsRow.holds Try.pinned (OpenSpec.ofChange needTellsSpec)

/-- ITS FALSE NEIGHBOUR: 'it returns false'. Refute it at one input. -/
def needTellsWrong : ChangeSpec := { name := "needTells", fn := fun _ => fun
  | [d1, d2, d3, d4] => { results := [.lit (.bool false)], args := [d1, d2, d3, d4] }
  | _ => none }
def NeedTellsWrongFalsely : Prop := needTellsRow.holds Try.pinned (OpenSpec.ofChange needTellsWrong)

/-- 'counterpanelaw20.NeedKeeps': WHATEVER THE INPUT: true; the input reads as it did. -/
def needKeepsSpec : ChangeSpec := { name := "needKeeps", fn := fun _ => fun
  | [d1, d2, d3, d4] => { results := [.lit (.bool true)], args := [d1, d2, d3, d4] }
  | _ => none }
def needKeepsRow : OpenClaim := { program := "ythpkhecialkmmaa", sum := "9f7a1772cd7622f048be16bcfa5a3ab51e24da139ad20fb8421940da71cb37cd", func := "counterpane/counterpanelaw20.NeedKeeps", spec := "needKeeps", unfollowed := true, recurses := true, apart := false }
def NeedKeepsSaid : Prop := needKeepsRow.holds Try.pinned (OpenSpec.ofChange needKeepsSpec)

/-- ITS FALSE NEIGHBOUR: 'it returns false'. Refute it at one input. -/
def needKeepsWrong : ChangeSpec := { name := "needKeeps", fn := fun _ => fun
  | [d1, d2, d3, d4] => { results := [.lit (.bool false)], args := [d1, d2, d3, d4] }
  | _ => none }
def NeedKeepsWrongFalsely : Prop := needKeepsRow.holds Try.pinned (OpenSpec.ofChange needKeepsWrong)

/-- 'counterpanelaw20.NeedEnds': WHATEVER THE INPUT: true; the input reads as it did. -/
def needEndsSpec : ChangeSpec := { name := "needEnds", fn := fun _ => fun
  | [d1, d2, d3] => { results := [.lit (.bool true)], args := [d1, d2, d3] }
  | _ => none }
def needEndsRow : OpenClaim := { program := "ythpkhecialkmmaa", sum := "9f7a1772cd7622f048be16bcfa5a3ab51e24da139ad20fb8421940da71cb37cd", func := "counterpane/counterpanelaw20.NeedEnds", spec := "needEnds", unfollowed := true, recurses := true, apart := false }
def NeedEndsSaid : Prop := needEndsRow.holds Try.pinned (OpenSpec.ofChange needEndsSpec)

/-- ITS FALSE NEIGHBOUR: 'it returns false'. Refute it at one input. -/
def needEndsWrong : ChangeSpec := { name := "needEnds", fn := fun _ => fun
  | [d1, d2, d3] => { results := [.lit (.bool false)], args := [d1, d2, d3] }
  | _ => none }
def NeedEndsWrongFalsely : Prop := needEndsRow.holds Try.pinned (OpenSpec.ofChange needEndsWrong)

/- THE SECOND FORM. 'bulk': how many values and letters a reading holds, each counted each time it is reached (what is shared counts as often as it is met; a slice's spare places count too). A statement '..UptoSaid' is the law's where the arguments, and the package variables that the reading takes, are together of bulk at most 1048576: NARROWER than '..Said'. Prove '..Said' where nothing that the law and all that it calls make is longer than what came in: it says more and counts as full. Else prove '..UptoSaid'. A law counts once. -/
mutual
def uptoBulk {H : Type} : DataW H → Nat
  | .lit (.string bytes) => bytes.length + 1
  | .lit _ => 1
  | .nil => 1
  | .ptr d => uptoBulk d + 1
  | .slice elems spare => uptoBulkAll elems + uptoBulkAll spare + 1
  | .agg parts => uptoBulkAll parts + 1
  | .iface _ d => uptoBulk d + 1
  | .map entries => uptoBulkEntries entries + 1
  | .held _ => 1
def uptoBulkAll {H : Type} : List (DataW H) → Nat
  | [] => 0
  | d :: r => uptoBulk d + uptoBulkAll r
def uptoBulkEntries {H : Type} : List (Lit × DataW H) → Nat
  | [] => 0
  | x :: r => uptoBulkEntry x + uptoBulkEntries r
def uptoBulkEntry {H : Type} : Lit × DataW H → Nat
  | (.string bytes, d) => bytes.length + uptoBulk d + 1
  | (_, d) => uptoBulk d + 1
 end
def uptoSmall : (H : Type) → List (DataW H) → Bool := fun _ ds => decide (uptoBulkAll ds ≤ 1048576)
def OpenSpec.upto (s : _root_.Go.ChangeSpec) : _root_.Go.OpenSpec := { _root_.Go.OpenSpec.ofChange s with cond := some uptoSmall }

/-- 'counterpanelaw20.NeedTells', WHERE WHAT IT READS IS OF BULK AT MOST 1048576: true; the input reads as it did. -/
def needTellsUptoRow : OpenClaim := { program := "ythpkhecialkmmaa", sum := "9f7a1772cd7622f048be16bcfa5a3ab51e24da139ad20fb8421940da71cb37cd", func := "counterpane/counterpanelaw20.NeedTells", spec := "needTells", unfollowed := true, recurses := true, apart := false, narrowed := true }
def NeedTellsUptoSaid : Prop := needTellsUptoRow.holds Try.pinned (OpenSpec.upto needTellsSpec)

/-- 'counterpanelaw20.NeedKeeps', WHERE WHAT IT READS IS OF BULK AT MOST 1048576: true; the input reads as it did. -/
def needKeepsUptoRow : OpenClaim := { program := "ythpkhecialkmmaa", sum := "9f7a1772cd7622f048be16bcfa5a3ab51e24da139ad20fb8421940da71cb37cd", func := "counterpane/counterpanelaw20.NeedKeeps", spec := "needKeeps", unfollowed := true, recurses := true, apart := false, narrowed := true }
def NeedKeepsUptoSaid : Prop := needKeepsUptoRow.holds Try.pinned (OpenSpec.upto needKeepsSpec)

/-- 'counterpanelaw20.NeedEnds', WHERE WHAT IT READS IS OF BULK AT MOST 1048576: true; the input reads as it did. -/
def needEndsUptoRow : OpenClaim := { program := "ythpkhecialkmmaa", sum := "9f7a1772cd7622f048be16bcfa5a3ab51e24da139ad20fb8421940da71cb37cd", func := "counterpane/counterpanelaw20.NeedEnds", spec := "needEnds", unfollowed := true, recurses := true, apart := false, narrowed := true }
def NeedEndsUptoSaid : Prop := needEndsUptoRow.holds Try.pinned (OpenSpec.upto needEndsSpec)

end Rows
end Go.Proofs.Ythpkhecialkmmaa
