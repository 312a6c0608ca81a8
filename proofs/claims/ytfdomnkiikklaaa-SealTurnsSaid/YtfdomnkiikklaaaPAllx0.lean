/- The functions that the laws of this seat reach, as plain functions with proofs that the calls answer just so (written by a program of this session on the kit's print). -/
import Derived.Test.YtfdomnkiikklaaaProg
import Derived.Below
import Derived.Deep.Draws
import Derived.Deep.AppendLies
import Derived.Maps.AppendAt
import Derived.OwnWalk
import Derived.Laws.BytesArg
import Derived.Laws.MakeOwn
import Derived.Laws.OwnMore
import Derived.Deep.OwnRows
import Derived.Tactics
import Derived.Lib.ConvBytes
import Derived.Laws.Slices
import Derived.WalkKit
import Derived.KernelRfl
import Derived.RowKit3
import Derived.Deep.LoopGhost
import Derived.Deep.QuietTactic
import Derived.BigQuiet
import Derived.WideLaws
import Derived.Deep.DeepCutAuto
import Derived.Deep.CutBlock
import Derived.Deep.RegionHeld3
import Derived.Laws.Rows
import Derived.Lib.AppendStr
import Derived.ArgAppend
import Derived.Laws.IdiomCopy
import Derived.OrdersHeld
import Derived.Laws.BitsLemmas
import Derived.RowKit
import Derived.WalkSpells
import Derived.WalkLawsBesides
import Derived.Laws.CopyOwn
import Derived.Laws.BitsAllLaws
import Derived.Lib.SlBytesConst
import Derived.Test.YtfdomnkiikklaaaWWords
import Derived.Test.YtfdomnkiikklaaaWLast
import Derived.Test.YtfdomnkiikklaaaWTab
import Derived.Test.YtfdomnkiikklaaaWFour
import Derived.Test.YtfdomnkiikklaaaWQPut
import Derived.Test.YtfdomnkiikklaaaWApart
import Derived.Test.YtfdomnkiikklaaaWArr
import Derived.Test.YtfdomnkiikklaaaWZeros
import Derived.Test.YtfdomnkiikklaaaWFoot
import Derived.Test.YtfdomnkiikklaaaWKept
import Derived.Test.YtfdomnkiikklaaaWShare
import Derived.Test.YtfdomnkiikklaaaWN
import Derived.Test.YtfdomnkiikklaaaWFootNe
import Derived.Test.YtfdomnkiikklaaaWAt
import Derived.Test.YtfdomnkiikklaaaWEqStruct
import Derived.Test.YtfdomnkiikklaaaWRepsOne
import Derived.Test.YtfdomnkiikklaaaWInv
import Derived.Test.YtfdomnkiikklaaaWInvWords
import Derived.Test.YtfdomnkiikklaaaWGuard
import Derived.Test.YtfdomnkiikklaaaWNEv
import Derived.Test.YtfdomnkiikklaaaWMore
namespace Go.Proofs.Ytfdomnkiikklaaa.PAll
open Go.RowKit Go.Proofs.YtfdomnkiikklaaaW.PrintWords Go.Proofs.YtfdomnkiikklaaaW.PrintLast Go.Proofs.YtfdomnkiikklaaaW.PrintMore
attribute [local go_sem] max2_int min2_int max_two min_two max_three min_three max_four min_four   -- for this text's walks alone
set_option linter.unusedVariables false
set_option linter.unusedSimpArgs false



def errW : Option Int → Value
  | none => .nilIface
  | some c => .iface 0 (.int .i64 c)
theorem errW_none : errW none = .nilIface := rfl
theorem errW_some (c : Int) : errW (some c) = .iface 0 (.int .i64 c) := rfl

theorem info5 : (Try.prog.info? 5).map (fun i => (i.zero, i.size, i.bytes)) = some (some (.int .u8 0), 1, 1) := by kernel_rfl
-- the values' own types

end Go.Proofs.Ytfdomnkiikklaaa.PAll
