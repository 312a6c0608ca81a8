/- The functions that the laws of this seat reach, as plain functions with proofs that the calls answer just so (written by a program of this session on the kit's print). -/
import Derived.Test.YtbmkkehbmkcinaaProg
import Derived.Below
import Derived.Deep.Draws
import Derived.Deep.AppendLies
import Derived.Maps.AppendAt
import Derived.OwnWalk
import Derived.Laws.BytesArg
import Derived.Laws.MakeOwn
import Derived.Laws.OwnMore
import Derived.Deep.OwnRows
import Derived.Tactics
import Derived.Lib.ConvBytes
import Derived.Laws.Slices
import Derived.WalkKit
import Derived.KernelRfl
import Derived.RowKit3
import Derived.Deep.LoopGhost
import Derived.Deep.QuietTactic
import Derived.BigQuiet
import Derived.WideLaws
import Derived.Deep.DeepCutAuto
import Derived.Deep.CutBlock
import Derived.Deep.RegionHeld3
import Derived.Laws.Rows
import Derived.Lib.AppendStr
import Derived.ArgAppend
import Derived.Laws.IdiomCopy
import Derived.OrdersHeld
import Derived.Laws.BitsLemmas
import Derived.RowKit
import Derived.WalkSpells
import Derived.WalkLawsBesides
import Derived.Laws.CopyOwn
import Derived.Laws.BitsAllLaws
import Derived.Test.YtbmkkehbmkcinaaWWords
import Derived.Test.YtbmkkehbmkcinaaWLast
import Derived.Test.YtbmkkehbmkcinaaWTab
import Derived.Test.YtbmkkehbmkcinaaWFour
import Derived.Test.YtbmkkehbmkcinaaWQPut
import Derived.Test.YtbmkkehbmkcinaaWApart
import Derived.Test.YtbmkkehbmkcinaaWArr
import Derived.Test.YtbmkkehbmkcinaaWZeros
import Derived.Test.YtbmkkehbmkcinaaWFoot
import Derived.Test.YtbmkkehbmkcinaaWKept
import Derived.Test.YtbmkkehbmkcinaaWShare
import Derived.Test.YtbmkkehbmkcinaaWN
import Derived.Test.YtbmkkehbmkcinaaWFootNe
import Derived.Test.YtbmkkehbmkcinaaWAt
import Derived.Test.YtbmkkehbmkcinaaWEqStruct
import Derived.Test.YtbmkkehbmkcinaaWRepsOne
import Derived.Test.YtbmkkehbmkcinaaWInv
import Derived.Test.YtbmkkehbmkcinaaWInvWords
import Derived.Test.YtbmkkehbmkcinaaWGuard
import Derived.Test.YtbmkkehbmkcinaaWNEv
import Derived.Test.YtbmkkehbmkcinaaWMore
namespace Go.Proofs.Ytbmkkehbmkcinaa.PAll
open Go.RowKit Go.Proofs.YtbmkkehbmkcinaaW.PrintWords Go.Proofs.YtbmkkehbmkcinaaW.PrintLast Go.Proofs.YtbmkkehbmkcinaaW.PrintMore
attribute [local go_sem] max2_int min2_int max_two min_two max_three min_three max_four min_four   -- for this text's walks alone
set_option linter.unusedVariables false
set_option linter.unusedSimpArgs false



def errW : Option Int → Value
  | none => .nilIface
  | some c => .iface 0 (.int .i64 c)
theorem errW_none : errW none = .nilIface := rfl
theorem errW_some (c : Int) : errW (some c) = .iface 0 (.int .i64 c) := rfl

theorem info22 : (Try.prog.info? 22).map (fun i => (i.zero, i.size, i.bytes)) = some (some (.int .u64 0), 1, 8) := by kernel_rfl
-- the values' own types

end Go.Proofs.Ytbmkkehbmkcinaa.PAll
