/- The functions that the laws of this seat reach, as plain functions with proofs that the calls answer just so (written by a program of this session on the kit's print). -/
import Derived.Test.YtabkoclmhdnjfaaPAllx0
import Derived.Test.YtabkoclmhdnjfaaPAllx1
import Derived.Test.YtabkoclmhdnjfaaPAllx2
import Derived.Test.YtabkoclmhdnjfaaPAllx3
import Derived.Test.YtabkoclmhdnjfaaPAllx4
import Derived.Test.YtabkoclmhdnjfaaPAllx5
import Derived.Test.YtabkoclmhdnjfaaPAllx6
import Derived.Test.YtabkoclmhdnjfaaPAllx7
import Derived.Test.YtabkoclmhdnjfaaPAllx8
import Derived.Test.YtabkoclmhdnjfaaPAllx9
import Derived.Test.YtabkoclmhdnjfaaPAllx10
import Derived.Test.YtabkoclmhdnjfaaPAllx11
import Derived.Test.YtabkoclmhdnjfaaPAllx12
import Derived.Test.YtabkoclmhdnjfaaPAllx13
import Derived.Test.YtabkoclmhdnjfaaPAllx14
import Derived.Test.YtabkoclmhdnjfaaPAllx15
import Derived.Test.YtabkoclmhdnjfaaPAllx16
import Derived.Test.YtabkoclmhdnjfaaPAllx17
import Derived.Test.YtabkoclmhdnjfaaPAllx18
import Derived.Test.YtabkoclmhdnjfaaPAllx19
import Derived.Test.YtabkoclmhdnjfaaPAllx20
import Derived.Test.YtabkoclmhdnjfaaPAllx21
import Derived.Test.YtabkoclmhdnjfaaPAllx22
namespace Go.Proofs.Ytabkoclmhdnjfaa.PAll
open Go.RowKit Go.Proofs.YtabkoclmhdnjfaaW.PrintWords Go.Proofs.YtabkoclmhdnjfaaW.PrintLast Go.Proofs.YtabkoclmhdnjfaaW.PrintMore
attribute [local go_sem] max2_int min2_int max_two min_two max_three min_three max_four min_four   -- for this text's walks alone
set_option linter.unusedVariables false
set_option linter.unusedSimpArgs false

end Go.Proofs.Ytabkoclmhdnjfaa.PAll
