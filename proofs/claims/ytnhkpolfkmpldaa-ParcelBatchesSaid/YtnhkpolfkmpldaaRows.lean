/-
  No cell of these rows narrows 'for every input' (looked for: loops, veiled, ifaces, maps, wideKeys, modest, calm, conditions, laid).
  DERIVED. THE GIVEN ROWS OF THIS SEAT. 4 by the template 'for every input the law returns true; each argument reads behind the call as it read before'; 0 by the template 'total and deterministic' (their statements: YtnhkpolfkmpldaaTotals.lean).
  GIVEN WITH THE SEED: the statements are not yours to turn. If you find one false, say at which input.
  Laid BY PROGRAM, IN A SANDBOX (cutbox-rows.mjs): the forced cells as the released guide's own fill.sh prints them over the translation dc0262ff9ecd1268… (all of the seat's roots in one cut). By AI agents, Wed Nov 11 2026. No macro, syntax, notation, axiom, sorry.
-/
import Derived.Test.YtnhkpolfkmpldaaChecked
import GoSem.Claim
import GoSem.ClaimJoined
import GoSem.ClaimMapViews
import Derived.JoinedTies
import Derived.KernelRfl
namespace Go.Proofs.Ytnhkpolfkmpldaa
/- THE CELL 'sum', in the pinned program and in every row, IS THE sha256 OF THE DUMP (.gsa) THAT YtnhkpolfkmpldaaProg.lean LOADS. Nothing in Lean hashes anything: it is a label: what it is worth is what the hold of that sum in a sandbox is worth. -/
noncomputable def Try.pinned : Pinned := { name := "ytnhkpolfkmpldaa", sum := "dc0262ff9ecd1268a498f80e3e67e92d154a653bbf6357989ea541f7ebca03ab", checked := Try.checked }
namespace Rows
def none {H : Type} : Left H := { results := [], args := [] }

/-- 'counterpanelaw33.ParcelPuts': WHATEVER THE INPUT: true; the input reads as it did. -/
def parcelPutsSpec : ChangeSpec := { name := "parcelPuts", fn := fun _ => fun
  | [d1, d2] => { results := [.lit (.bool true)], args := [d1, d2] }
  | _ => none }
def parcelPutsRow : OpenClaim := { program := "ytnhkpolfkmpldaa", sum := "dc0262ff9ecd1268a498f80e3e67e92d154a653bbf6357989ea541f7ebca03ab", func := "counterpane/counterpanelaw33.ParcelPuts", spec := "parcelPuts", unfollowed := true, recurses := true, apart := false }
def ParcelPutsSaid : Prop := parcelPutsRow.holds Try.pinned (OpenSpec.ofChange parcelPutsSpec)

/-- ITS FALSE NEIGHBOUR: 'it returns false'. Refute it at one input. -/
def parcelPutsWrong : ChangeSpec := { name := "parcelPuts", fn := fun _ => fun
  | [d1, d2] => { results := [.lit (.bool false)], args := [d1, d2] }
  | _ => none }
def ParcelPutsWrongFalsely : Prop := parcelPutsRow.holds Try.pinned (OpenSpec.ofChange parcelPutsWrong)

/-- 'counterpanelaw33.ParcelBack': WHATEVER THE INPUT: true; the input reads as it did. -/
def parcelBackSpec : ChangeSpec := { name := "parcelBack", fn := fun _ => fun
  | [d1, d2, d3] => { results := [.lit (.bool true)], args := [d1, d2, d3] }
  | _ => none }
def parcelBackRow : OpenClaim := { program := "ytnhkpolfkmpldaa", sum := "dc0262ff9ecd1268a498f80e3e67e92d154a653bbf6357989ea541f7ebca03ab", func := "counterpane/counterpanelaw33.ParcelBack", spec := "parcelBack", unfollowed := true, recurses := true, apart := false }
def ParcelBackSaid : Prop := parcelBackRow.holds Try.pinned (OpenSpec.ofChange parcelBackSpec)

/-- ITS FALSE NEIGHBOUR: 'it returns false'. Refute it at one input. -/
def parcelBackWrong : ChangeSpec := { name := "parcelBack", fn := fun _ => fun
  | [d1, d2, d3] => { results := [.lit (.bool false)], args := [d1, d2, d3] }
  | _ => none }
def ParcelBackWrongFalsely : Prop := parcelBackRow.holds Try.pinned (OpenSpec.ofChange parcelBackWrong)

/-- 'counterpanelaw33.ParcelOne': WHATEVER THE INPUT: true; the input reads as it did. -/
def parcelOneSpec : ChangeSpec := { name := "parcelOne", fn := fun _ => fun
  | [d] => { results := [.lit (.bool true)], args := [d] }
  | _ => none }
def parcelOneRow : OpenClaim := { program := "ytnhkpolfkmpldaa", sum := "dc0262ff9ecd1268a498f80e3e67e92d154a653bbf6357989ea541f7ebca03ab", func := "counterpane/counterpanelaw33.ParcelOne", spec := "parcelOne", unfollowed := true, recurses := true, apart := false }
def ParcelOneSaid : Prop := parcelOneRow.holds Try.pinned (OpenSpec.ofChange parcelOneSpec)

/-- ITS FALSE NEIGHBOUR: 'it returns false'. Refute it at one input. -/
def parcelOneWrong : ChangeSpec := { name := "parcelOne", fn := fun _ => fun
  | [d] => { results := [.lit (.bool false)], args := [d] }
  | _ => none }
def ParcelOneWrongFalsely : Prop := parcelOneRow.holds Try.pinned (OpenSpec.ofChange parcelOneWrong)

/-- 'counterpanelaw33.ParcelBatches': WHATEVER THE INPUT: true; the input reads as it did. -/
def parcelBatchesSpec : ChangeSpec := { name := "parcelBatches", fn := fun _ => fun
  | [d1, d2] => { results := [.lit (.bool true)], args := [d1, d2] }
  | _ => none }
def parcelBatchesRow : OpenClaim := { program := "ytnhkpolfkmpldaa", sum := "dc0262ff9ecd1268a498f80e3e67e92d154a653bbf6357989ea541f7ebca03ab", func := "counterpane/counterpanelaw33.ParcelBatches", spec := "parcelBatches", unfollowed := true, recurses := true, apart := false }
def ParcelBatchesSaid : Prop := parcelBatchesRow.holds Try.pinned (OpenSpec.ofChange parcelBatchesSpec)

/-- ITS FALSE NEIGHBOUR: 'it returns false'. Refute it at one input. -/
def parcelBatchesWrong : ChangeSpec := { name := "parcelBatches", fn := fun _ => fun
  | [d1, d2] => { results := [.lit (.bool false)], args := [d1, d2] }
  | _ => none }
def ParcelBatchesWrongFalsely : Prop := parcelBatchesRow.holds Try.pinned (OpenSpec.ofChange parcelBatchesWrong)

/- THE SECOND FORM. 'bulk': how many values and letters a reading holds, each counted each time it is reached (what is shared counts as often as it is met; a slice's spare places count too). A statement '..UptoSaid' is the law's where the arguments, and the package variables that the reading takes, are together of bulk at most 1048576: NARROWER than '..Said'. Prove '..Said' where nothing that the law and all that it calls make is longer than what came in: it says more and counts as full. Else prove '..UptoSaid'. A law counts once. -/
mutual
def uptoBulk {H : Type} : DataW H → Nat
  | .lit (.string bytes) => bytes.length + 1
  | .lit _ => 1
  | .nil => 1
  | .ptr d => uptoBulk d + 1
  | .slice elems spare => uptoBulkAll elems + uptoBulkAll spare + 1
  | .agg parts => uptoBulkAll parts + 1
  | .iface _ d => uptoBulk d + 1
  | .map entries => uptoBulkEntries entries + 1
  | .held _ => 1
def uptoBulkAll {H : Type} : List (DataW H) → Nat
  | [] => 0
  | d :: r => uptoBulk d + uptoBulkAll r
def uptoBulkEntries {H : Type} : List (Lit × DataW H) → Nat
  | [] => 0
  | x :: r => uptoBulkEntry x + uptoBulkEntries r
def uptoBulkEntry {H : Type} : Lit × DataW H → Nat
  | (.string bytes, d) => bytes.length + uptoBulk d + 1
  | (_, d) => uptoBulk d + 1
 end
def uptoSmall : (H : Type) → List (DataW H) → Bool := fun _ ds => decide (uptoBulkAll ds ≤ 1048576)
def OpenSpec.upto (s : _root_.Go.ChangeSpec) : _root_.Go.OpenSpec := { _root_.Go.OpenSpec.ofChange s with cond := some uptoSmall }

/-- 'counterpanelaw33.ParcelPuts', WHERE WHAT IT READS IS OF BULK AT MOST 1048576: true; the input reads as it did. -/
def parcelPutsUptoRow : OpenClaim := { program := "ytnhkpolfkmpldaa", sum := "dc0262ff9ecd1268a498f80e3e67e92d154a653bbf6357989ea541f7ebca03ab", func := "counterpane/counterpanelaw33.ParcelPuts", spec := "parcelPuts", unfollowed := true, recurses := true, apart := false, narrowed := true }
def ParcelPutsUptoSaid : Prop := parcelPutsUptoRow.holds Try.pinned (OpenSpec.upto parcelPutsSpec)

/-- 'counterpanelaw33.ParcelBack', WHERE WHAT IT READS IS OF BULK AT MOST 1048576: true; the input reads as it did. -/
def parcelBackUptoRow : OpenClaim := { program := "ytnhkpolfkmpldaa", sum := "dc0262ff9ecd1268a498f80e3e67e92d154a653bbf6357989ea541f7ebca03ab", func := "counterpane/counterpanelaw33.ParcelBack", spec := "parcelBack", unfollowed := true, recurses := true, apart := false, narrowed := true }
def ParcelBackUptoSaid : Prop := parcelBackUptoRow.holds Try.pinned (OpenSpec.upto parcelBackSpec)

/-- 'counterpanelaw33.ParcelOne', WHERE WHAT IT READS IS OF BULK AT MOST 1048576: true; the input reads as it did. -/
def parcelOneUptoRow : OpenClaim := { program := "ytnhkpolfkmpldaa", sum := "dc0262ff9ecd1268a498f80e3e67e92d154a653bbf6357989ea541f7ebca03ab", func := "counterpane/counterpanelaw33.ParcelOne", spec := "parcelOne", unfollowed := true, recurses := true, apart := false, narrowed := true }
def ParcelOneUptoSaid : Prop := parcelOneUptoRow.holds Try.pinned (OpenSpec.upto parcelOneSpec)

/-- 'counterpanelaw33.ParcelBatches', WHERE WHAT IT READS IS OF BULK AT MOST 1048576: true; the input reads as it did. -/
def parcelBatchesUptoRow : OpenClaim := { program := "ytnhkpolfkmpldaa", sum := "dc0262ff9ecd1268a498f80e3e67e92d154a653bbf6357989ea541f7ebca03ab", func := "counterpane/counterpanelaw33.ParcelBatches", spec := "parcelBatches", unfollowed := true, recurses := true, apart := false, narrowed := true }
def ParcelBatchesUptoSaid : Prop := parcelBatchesUptoRow.holds Try.pinned (OpenSpec.upto parcelBatchesSpec)

end Rows
end Go.Proofs.Ytnhkpolfkmpldaa
