/- The functions that the laws of this seat reach, as plain functions with proofs that the calls answer just so (written by a program of this session on the kit's print). -/
import Derived.Test.YtfdomnkiikklaaaPAllx0
namespace Go.Proofs.Ytfdomnkiikklaaa.PAll
open Go.RowKit Go.Proofs.YtfdomnkiikklaaaW.PrintWords Go.Proofs.YtfdomnkiikklaaaW.PrintLast Go.Proofs.YtfdomnkiikklaaaW.PrintMore
attribute [local go_sem] max2_int min2_int max_two min_two max_three min_three max_four min_four   -- for this text's walks alone
set_option linter.unusedVariables false
set_option linter.unusedSimpArgs false

-- NOT PRINTED: function 15 (seal_table)

end Go.Proofs.Ytfdomnkiikklaaa.PAll
