/- The functions that the laws of this seat reach, as plain functions with proofs that the calls answer just so (written by a program of this session on the kit's print). -/
import Derived.Test.YtabkoclmhdnjfaaProg
import Derived.Below
import Derived.Deep.Draws
import Derived.Deep.AppendLies
import Derived.Maps.AppendAt
import Derived.OwnWalk
import Derived.Laws.BytesArg
import Derived.Laws.MakeOwn
import Derived.Laws.OwnMore
import Derived.Deep.OwnRows
import Derived.Tactics
import Derived.Lib.ConvBytes
import Derived.Laws.Slices
import Derived.WalkKit
import Derived.KernelRfl
import Derived.RowKit3
import Derived.Deep.LoopGhost
import Derived.Deep.QuietTactic
import Derived.BigQuiet
import Derived.WideLaws
import Derived.Deep.DeepCutAuto
import Derived.Deep.CutBlock
import Derived.Deep.RegionHeld3
import Derived.Laws.Rows
import Derived.Lib.AppendStr
import Derived.ArgAppend
import Derived.Laws.IdiomCopy
import Derived.OrdersHeld
import Derived.Laws.BitsLemmas
import Derived.RowKit
import Derived.WalkSpells
import Derived.WalkLawsBesides
import Derived.Laws.CopyOwn
import Derived.Laws.BitsAllLaws
import Derived.Laws.StructEq
import Derived.Test.YtabkoclmhdnjfaaWWords
import Derived.Test.YtabkoclmhdnjfaaWLast
import Derived.Test.YtabkoclmhdnjfaaWTab
import Derived.Test.YtabkoclmhdnjfaaWFour
import Derived.Test.YtabkoclmhdnjfaaWQPut
import Derived.Test.YtabkoclmhdnjfaaWApart
import Derived.Test.YtabkoclmhdnjfaaWArr
import Derived.Test.YtabkoclmhdnjfaaWZeros
import Derived.Test.YtabkoclmhdnjfaaWFoot
import Derived.Test.YtabkoclmhdnjfaaWKept
import Derived.Test.YtabkoclmhdnjfaaWShare
import Derived.Test.YtabkoclmhdnjfaaWN
import Derived.Test.YtabkoclmhdnjfaaWFootNe
import Derived.Test.YtabkoclmhdnjfaaWAt
import Derived.Test.YtabkoclmhdnjfaaWEqStruct
import Derived.Test.YtabkoclmhdnjfaaWRepsOne
import Derived.Test.YtabkoclmhdnjfaaWInv
import Derived.Test.YtabkoclmhdnjfaaWInvWords
import Derived.Test.YtabkoclmhdnjfaaWGuard
import Derived.Test.YtabkoclmhdnjfaaWNEv
import Derived.Test.YtabkoclmhdnjfaaWMore
namespace Go.Proofs.Ytabkoclmhdnjfaa.PAll
open Go.RowKit Go.Proofs.YtabkoclmhdnjfaaW.PrintWords Go.Proofs.YtabkoclmhdnjfaaW.PrintLast Go.Proofs.YtabkoclmhdnjfaaW.PrintMore
attribute [local go_sem] max2_int min2_int max_two min_two max_three min_three max_four min_four   -- for this text's walks alone
set_option linter.unusedVariables false
set_option linter.unusedSimpArgs false



def errW : Option Int → Value
  | none => .nilIface
  | some c => .iface 0 (.int .i64 c)
theorem errW_none : errW none = .nilIface := rfl
/-- A number, taken modulo what its kind holds. -/
def cvt : IntKind → Int → Int
  | .u8, x => x % 256
  | .u32, x => x % 4294967296
  | k, x => k.wrap x
theorem errW_some (c : Int) : errW (some c) = .iface 0 (.int .i64 c) := rfl

-- the values' own types

end Go.Proofs.Ytabkoclmhdnjfaa.PAll
