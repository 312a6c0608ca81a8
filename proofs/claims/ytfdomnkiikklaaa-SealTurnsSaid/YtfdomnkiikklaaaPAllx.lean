/- The functions that the laws of this seat reach, as plain functions with proofs that the calls answer just so (written by a program of this session on the kit's print). -/
import Derived.Test.YtfdomnkiikklaaaPAllx0
import Derived.Test.YtfdomnkiikklaaaPAllx1
import Derived.Test.YtfdomnkiikklaaaPAllx2
import Derived.Test.YtfdomnkiikklaaaPAllx3
import Derived.Test.YtfdomnkiikklaaaPAllx4
import Derived.Test.YtfdomnkiikklaaaPAllx5
import Derived.Test.YtfdomnkiikklaaaPAllx6
import Derived.Test.YtfdomnkiikklaaaPAllx7
import Derived.Test.YtfdomnkiikklaaaPAllx8
import Derived.Test.YtfdomnkiikklaaaPAllx9
import Derived.Test.YtfdomnkiikklaaaPAllx10
import Derived.Test.YtfdomnkiikklaaaPAllx11
import Derived.Test.YtfdomnkiikklaaaPAllx12
import Derived.Test.YtfdomnkiikklaaaPAllx13
import Derived.Test.YtfdomnkiikklaaaPAllx14
namespace Go.Proofs.Ytfdomnkiikklaaa.PAll
open Go.RowKit Go.Proofs.YtfdomnkiikklaaaW.PrintWords Go.Proofs.YtfdomnkiikklaaaW.PrintLast Go.Proofs.YtfdomnkiikklaaaW.PrintMore
attribute [local go_sem] max2_int min2_int max_two min_two max_three min_three max_four min_four   -- for this text's walks alone
set_option linter.unusedVariables false
set_option linter.unusedSimpArgs false

end Go.Proofs.Ytfdomnkiikklaaa.PAll
