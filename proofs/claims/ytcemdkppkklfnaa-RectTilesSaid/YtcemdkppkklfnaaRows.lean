/-
  No cell of these rows narrows 'for every input' (looked for: loops, veiled, ifaces, maps, wideKeys, modest, calm, conditions, laid).
  DERIVED. THE GIVEN ROWS OF THIS SEAT. 3 by the template 'for every input the law returns true; each argument reads behind the call as it read before'; 0 by the template 'total and deterministic' (their statements: YtcemdkppkklfnaaTotals.lean).
  GIVEN WITH THE SEED: the statements are not yours to turn. If you find one false, say at which input.
  Laid BY PROGRAM, IN A SANDBOX (cutbox-rows.mjs): the forced cells as the released guide's own fill.sh prints them over the translation 49ae2c02b390057b… (all of the seat's roots in one cut). By AI agents, Wed Nov 11 2026. No macro, syntax, notation, axiom, sorry.
-/
import Derived.Test.YtcemdkppkklfnaaChecked
import GoSem.Claim
import GoSem.ClaimJoined
import GoSem.ClaimMapViews
import Derived.JoinedTies
import Derived.KernelRfl
namespace Go.Proofs.Ytcemdkppkklfnaa
/- THE CELL 'sum', in the pinned program and in every row, IS THE sha256 OF THE DUMP (.gsa) THAT YtcemdkppkklfnaaProg.lean LOADS. Nothing in Lean hashes anything: it is a label: what it is worth is what the hold of that sum in a sandbox is worth. -/
noncomputable def Try.pinned : Pinned := { name := "ytcemdkppkklfnaa", sum := "49ae2c02b390057ba38f371a790ac741524e0365595b9b5203a2fda14b7493d3", checked := Try.checked }
namespace Rows
def none {H : Type} : Left H := { results := [], args := [] }

/-- 'counterpanelaw04.RectPoints': WHATEVER THE INPUT: true; the input reads as it did. -/
def rectPointsSpec : ChangeSpec := { name := "rectPoints", fn := fun _ => fun
  | [d1, d2, d3, d4] => { results := [.lit (.bool true)], args := [d1, d2, d3, d4] }
  | _ => none }
def rectPointsRow : OpenClaim := { program := "ytcemdkppkklfnaa", sum := "49ae2c02b390057ba38f371a790ac741524e0365595b9b5203a2fda14b7493d3", func := "counterpane/counterpanelaw04.RectPoints", spec := "rectPoints", unfollowed := true, recurses := true, apart := false }
def RectPointsSaid : Prop := rectPointsRow.holds Try.pinned (OpenSpec.ofChange rectPointsSpec)

/-- ITS FALSE NEIGHBOUR: 'it returns false'. Refute it at one input. -/
def rectPointsWrong : ChangeSpec := { name := "rectPoints", fn := fun _ => fun
  | [d1, d2, d3, d4] => { results := [.lit (.bool false)], args := [d1, d2, d3, d4] }
  | _ => none }
def RectPointsWrongFalsely : Prop := rectPointsRow.holds Try.pinned (OpenSpec.ofChange rectPointsWrong)

/-- 'counterpanelaw04.RectWhole': WHATEVER THE INPUT: true; the input reads as it did. -/
def rectWholeSpec : ChangeSpec := { name := "rectWhole", fn := fun _ => fun
  | [d1, d2, d3] => { results := [.lit (.bool true)], args := [d1, d2, d3] }
  | _ => none }
def rectWholeRow : OpenClaim := { program := "ytcemdkppkklfnaa", sum := "49ae2c02b390057ba38f371a790ac741524e0365595b9b5203a2fda14b7493d3", func := "counterpane/counterpanelaw04.RectWhole", spec := "rectWhole", unfollowed := true, recurses := true, apart := false }
def RectWholeSaid : Prop := rectWholeRow.holds Try.pinned (OpenSpec.ofChange rectWholeSpec)

/-- ITS FALSE NEIGHBOUR: 'it returns false'. Refute it at one input. -/
def rectWholeWrong : ChangeSpec := { name := "rectWhole", fn := fun _ => fun
  | [d1, d2, d3] => { results := [.lit (.bool false)], args := [d1, d2, d3] }
  | _ => none }
def RectWholeWrongFalsely : Prop := rectWholeRow.holds Try.pinned (OpenSpec.ofChange rectWholeWrong)

/-- 'counterpanelaw04.RectTiles': WHATEVER THE INPUT: true; the input reads as it did. -/
def rectTilesSpec : ChangeSpec := { name := "rectTiles", fn := fun _ => fun
  | [d1, d2, d3, d4] => { results := [.lit (.bool true)], args := [d1, d2, d3, d4] }
  | _ => none }
def rectTilesRow : OpenClaim := { program := "ytcemdkppkklfnaa", sum := "49ae2c02b390057ba38f371a790ac741524e0365595b9b5203a2fda14b7493d3", func := "counterpane/counterpanelaw04.RectTiles", spec := "rectTiles", unfollowed := true, recurses := true, apart := false }
def RectTilesSaid : Prop := rectTilesRow.holds Try.pinned (OpenSpec.ofChange rectTilesSpec)

/-- ITS FALSE NEIGHBOUR: 'it returns false'. Refute it at one input. -/
def rectTilesWrong : ChangeSpec := { name := "rectTiles", fn := fun _ => fun
  | [d1, d2, d3, d4] => { results := [.lit (.bool false)], args := [d1, d2, d3, d4] }
  | _ => none }
def RectTilesWrongFalsely : Prop := rectTilesRow.holds Try.pinned (OpenSpec.ofChange rectTilesWrong)

/- THE SECOND FORM. 'bulk': how many values and letters a reading holds, each counted each time it is reached (what is shared counts as often as it is met; a slice's spare places count too). A statement '..UptoSaid' is the law's where the arguments, and the package variables that the reading takes, are together of bulk at most 1048576: NARROWER than '..Said'. Prove '..Said' where nothing that the law and all that it calls make is longer than what came in: it says more and counts as full. Else prove '..UptoSaid'. A law counts once. -/
mutual
def uptoBulk {H : Type} : DataW H → Nat
  | .lit (.string bytes) => bytes.length + 1
  | .lit _ => 1
  | .nil => 1
  | .ptr d => uptoBulk d + 1
  | .slice elems spare => uptoBulkAll elems + uptoBulkAll spare + 1
  | .agg parts => uptoBulkAll parts + 1
  | .iface _ d => uptoBulk d + 1
  | .map entries => uptoBulkEntries entries + 1
  | .held _ => 1
def uptoBulkAll {H : Type} : List (DataW H) → Nat
  | [] => 0
  | d :: r => uptoBulk d + uptoBulkAll r
def uptoBulkEntries {H : Type} : List (Lit × DataW H) → Nat
  | [] => 0
  | x :: r => uptoBulkEntry x + uptoBulkEntries r
def uptoBulkEntry {H : Type} : Lit × DataW H → Nat
  | (.string bytes, d) => bytes.length + uptoBulk d + 1
  | (_, d) => uptoBulk d + 1
 end
def uptoSmall : (H : Type) → List (DataW H) → Bool := fun _ ds => decide (uptoBulkAll ds ≤ 1048576)
def OpenSpec.upto (s : _root_.Go.ChangeSpec) : _root_.Go.OpenSpec := { _root_.Go.OpenSpec.ofChange s with cond := some uptoSmall }

/-- 'counterpanelaw04.RectPoints', WHERE WHAT IT READS IS OF BULK AT MOST 1048576: true; the input reads as it did. -/
def rectPointsUptoRow : OpenClaim := { program := "ytcemdkppkklfnaa", sum := "49ae2c02b390057ba38f371a790ac741524e0365595b9b5203a2fda14b7493d3", func := "counterpane/counterpanelaw04.RectPoints", spec := "rectPoints", unfollowed := true, recurses := true, apart := false, narrowed := true }
def RectPointsUptoSaid : Prop := rectPointsUptoRow.holds Try.pinned (OpenSpec.upto rectPointsSpec)

/-- 'counterpanelaw04.RectWhole', WHERE WHAT IT READS IS OF BULK AT MOST 1048576: true; the input reads as it did. -/
def rectWholeUptoRow : OpenClaim := { program := "ytcemdkppkklfnaa", sum := "49ae2c02b390057ba38f371a790ac741524e0365595b9b5203a2fda14b7493d3", func := "counterpane/counterpanelaw04.RectWhole", spec := "rectWhole", unfollowed := true, recurses := true, apart := false, narrowed := true }
def RectWholeUptoSaid : Prop := rectWholeUptoRow.holds Try.pinned (OpenSpec.upto rectWholeSpec)

/-- 'counterpanelaw04.RectTiles', WHERE WHAT IT READS IS OF BULK AT MOST 1048576: true; the input reads as it did. -/
def rectTilesUptoRow : OpenClaim := { program := "ytcemdkppkklfnaa", sum := "49ae2c02b390057ba38f371a790ac741524e0365595b9b5203a2fda14b7493d3", func := "counterpane/counterpanelaw04.RectTiles", spec := "rectTiles", unfollowed := true, recurses := true, apart := false, narrowed := true }
def RectTilesUptoSaid : Prop := rectTilesUptoRow.holds Try.pinned (OpenSpec.upto rectTilesSpec)

end Rows
end Go.Proofs.Ytcemdkppkklfnaa
