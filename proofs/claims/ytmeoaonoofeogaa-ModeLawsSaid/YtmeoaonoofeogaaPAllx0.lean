/- The functions that the laws of this seat reach, as plain functions with proofs that the calls answer just so (written by a program of this session on the kit's print). -/
import Derived.Test.YtmeoaonoofeogaaProg
import Derived.Below
import Derived.Deep.Draws
import Derived.Deep.AppendLies
import Derived.Maps.AppendAt
import Derived.OwnWalk
import Derived.Laws.BytesArg
import Derived.Laws.MakeOwn
import Derived.Laws.OwnMore
import Derived.Deep.OwnRows
import Derived.Tactics
import Derived.Lib.ConvBytes
import Derived.Laws.Slices
import Derived.WalkKit
import Derived.KernelRfl
import Derived.RowKit3
import Derived.Deep.LoopGhost
import Derived.Deep.QuietTactic
import Derived.BigQuiet
import Derived.WideLaws
import Derived.Deep.DeepCutAuto
import Derived.Deep.CutBlock
import Derived.Deep.RegionHeld3
import Derived.Laws.Rows
import Derived.Lib.AppendStr
import Derived.ArgAppend
import Derived.Laws.IdiomCopy
import Derived.OrdersHeld
import Derived.Laws.BitsLemmas
import Derived.RowKit
import Derived.WalkSpells
import Derived.WalkLawsBesides
import Derived.Test.YtmeoaonoofeogaaWWords
import Derived.Test.YtmeoaonoofeogaaWLast
import Derived.Test.YtmeoaonoofeogaaWTab
import Derived.Test.YtmeoaonoofeogaaWFour
import Derived.Test.YtmeoaonoofeogaaWQPut
import Derived.Test.YtmeoaonoofeogaaWApart
import Derived.Test.YtmeoaonoofeogaaWArr
import Derived.Test.YtmeoaonoofeogaaWZeros
import Derived.Test.YtmeoaonoofeogaaWFoot
import Derived.Test.YtmeoaonoofeogaaWKept
import Derived.Test.YtmeoaonoofeogaaWShare
import Derived.Test.YtmeoaonoofeogaaWN
import Derived.Test.YtmeoaonoofeogaaWFootNe
import Derived.Test.YtmeoaonoofeogaaWAt
import Derived.Test.YtmeoaonoofeogaaWEqStruct
import Derived.Test.YtmeoaonoofeogaaWRepsOne
import Derived.Test.YtmeoaonoofeogaaWInv
import Derived.Test.YtmeoaonoofeogaaWInvWords
import Derived.Test.YtmeoaonoofeogaaWGuard
import Derived.Test.YtmeoaonoofeogaaWNEv
import Derived.Test.YtmeoaonoofeogaaWMore
namespace Go.Proofs.Ytmeoaonoofeogaa.PAll
open Go.RowKit Go.Proofs.YtmeoaonoofeogaaW.PrintWords Go.Proofs.YtmeoaonoofeogaaW.PrintLast Go.Proofs.YtmeoaonoofeogaaW.PrintMore
attribute [local go_sem] max2_int min2_int max_two min_two max_three min_three max_four min_four   -- for this text's walks alone
set_option linter.unusedVariables false
set_option linter.unusedSimpArgs false



def errW : Option Int → Value
  | none => .nilIface
  | some c => .iface 0 (.int .i64 c)
theorem errW_none : errW none = .nilIface := rfl
theorem errW_some (c : Int) : errW (some c) = .iface 0 (.int .i64 c) := rfl

-- the values' own types

end Go.Proofs.Ytmeoaonoofeogaa.PAll
