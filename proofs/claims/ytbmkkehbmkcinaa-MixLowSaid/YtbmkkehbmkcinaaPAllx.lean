/- The functions that the laws of this seat reach, as plain functions with proofs that the calls answer just so (written by a program of this session on the kit's print). -/
import Derived.Test.YtbmkkehbmkcinaaPAllx0
import Derived.Test.YtbmkkehbmkcinaaPAllx1
import Derived.Test.YtbmkkehbmkcinaaPAllx2
import Derived.Test.YtbmkkehbmkcinaaPAllx3
import Derived.Test.YtbmkkehbmkcinaaPAllx4
import Derived.Test.YtbmkkehbmkcinaaPAllx5
import Derived.Test.YtbmkkehbmkcinaaPAllx6
import Derived.Test.YtbmkkehbmkcinaaPAllx7
import Derived.Test.YtbmkkehbmkcinaaPAllx8
import Derived.Test.YtbmkkehbmkcinaaPAllx9
import Derived.Test.YtbmkkehbmkcinaaPAllx10
import Derived.Test.YtbmkkehbmkcinaaPAllx11
import Derived.Test.YtbmkkehbmkcinaaPAllx12
import Derived.Test.YtbmkkehbmkcinaaPAllx13
import Derived.Test.YtbmkkehbmkcinaaPAllx14
import Derived.Test.YtbmkkehbmkcinaaPAllx15
import Derived.Test.YtbmkkehbmkcinaaPAllx16
namespace Go.Proofs.Ytbmkkehbmkcinaa.PAll
open Go.RowKit Go.Proofs.YtbmkkehbmkcinaaW.PrintWords Go.Proofs.YtbmkkehbmkcinaaW.PrintLast Go.Proofs.YtbmkkehbmkcinaaW.PrintMore
attribute [local go_sem] max2_int min2_int max_two min_two max_three min_three max_four min_four   -- for this text's walks alone
set_option linter.unusedVariables false
set_option linter.unusedSimpArgs false

end Go.Proofs.Ytbmkkehbmkcinaa.PAll
