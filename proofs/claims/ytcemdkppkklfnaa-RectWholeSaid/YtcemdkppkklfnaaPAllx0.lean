/- The functions that the laws of this seat reach, as plain functions with proofs that the calls answer just so (written by a program of this session on the kit's print). -/
import Derived.Test.YtcemdkppkklfnaaProg
import Derived.Below
import Derived.Deep.Draws
import Derived.Deep.AppendLies
import Derived.Maps.AppendAt
import Derived.OwnWalk
import Derived.Laws.BytesArg
import Derived.Laws.MakeOwn
import Derived.Laws.OwnMore
import Derived.Deep.OwnRows
import Derived.Tactics
import Derived.Lib.ConvBytes
import Derived.Laws.Slices
import Derived.WalkKit
import Derived.KernelRfl
import Derived.RowKit3
import Derived.Deep.LoopGhost
import Derived.Deep.QuietTactic
import Derived.BigQuiet
import Derived.WideLaws
import Derived.Deep.DeepCutAuto
import Derived.Deep.CutBlock
import Derived.Deep.RegionHeld3
import Derived.Laws.Rows
import Derived.Lib.AppendStr
import Derived.ArgAppend
import Derived.Laws.IdiomCopy
import Derived.OrdersHeld
import Derived.Laws.BitsLemmas
import Derived.RowKit
import Derived.WalkSpells
import Derived.WalkLawsBesides
import Derived.Laws.CopyOwn
import Derived.Laws.BitsAllLaws
import Derived.Laws.StructEq
import Derived.RangeFuncNested
import Derived.RangeFuncBound
import Derived.RangeFuncCalls
import Derived.RangeFuncLeaves
import Derived.RangeFuncFrom
import Derived.Shelf.Abstract
import Derived.Shelf.RegionOpen
import Derived.WalkKit
import Derived.OwnWalkIn
import Derived.TacticsInMore
import Derived.LoopNIn
import Derived.LoopIn
import Derived.RangeFuncKeeps
import Derived.Test.YtcemdkppkklfnaaWWords
import Derived.Test.YtcemdkppkklfnaaWLast
import Derived.Test.YtcemdkppkklfnaaWTab
import Derived.Test.YtcemdkppkklfnaaWFour
import Derived.Test.YtcemdkppkklfnaaWQPut
import Derived.Test.YtcemdkppkklfnaaWApart
import Derived.Test.YtcemdkppkklfnaaWArr
import Derived.Test.YtcemdkppkklfnaaWZeros
import Derived.Test.YtcemdkppkklfnaaWFoot
import Derived.Test.YtcemdkppkklfnaaWKept
import Derived.Test.YtcemdkppkklfnaaWShare
import Derived.Test.YtcemdkppkklfnaaWN
import Derived.Test.YtcemdkppkklfnaaWFootNe
import Derived.Test.YtcemdkppkklfnaaWAt
import Derived.Test.YtcemdkppkklfnaaWEqStruct
import Derived.Test.YtcemdkppkklfnaaWRepsOne
import Derived.Test.YtcemdkppkklfnaaWInv
import Derived.Test.YtcemdkppkklfnaaWInvWords
import Derived.Test.YtcemdkppkklfnaaWGuard
import Derived.Test.YtcemdkppkklfnaaWNEv
import Derived.Test.YtcemdkppkklfnaaWMore
namespace Go.Proofs.Ytcemdkppkklfnaa.PAll
open Go.RowKit Go.Proofs.YtcemdkppkklfnaaW.PrintWords Go.Proofs.YtcemdkppkklfnaaW.PrintLast Go.Proofs.YtcemdkppkklfnaaW.PrintMore
attribute [local go_sem] max2_int min2_int max_two min_two max_three min_three max_four min_four   -- for this text's walks alone
set_option linter.unusedVariables false
set_option linter.unusedSimpArgs false



def errW : Option Int → Value
  | none => .nilIface
  | some c => .iface 0 (.int .i64 c)
theorem errW_none : errW none = .nilIface := rfl
/-- A number, taken modulo what its kind holds. -/
def cvt : IntKind → Int → Int
  | .u8, x => x % 256
  | .u32, x => x % 4294967296
  | k, x => k.wrap x
theorem errW_some (c : Int) : errW (some c) = .iface 0 (.int .i64 c) := rfl

theorem info3 : (Try.prog.info? 3).map (fun i => (i.zero, i.size, i.bytes)) = some (some (.int .i64 0), 1, 8) := by kernel_rfl
-- the values' own types

end Go.Proofs.Ytcemdkppkklfnaa.PAll
