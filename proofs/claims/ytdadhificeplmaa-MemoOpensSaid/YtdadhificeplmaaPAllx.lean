-- PRINTED by print.py (a twelfth state) out of the translation. Not trusted: Lean checks it.
import Derived.Test.YtdadhificeplmaaPAllx0
import Derived.Test.YtdadhificeplmaaPAllx1
import Derived.Test.YtdadhificeplmaaPAllx2
namespace Go.Proofs.Ytdadhificeplmaa.PAll
open Go.RowKit Go.Proofs.YtdadhificeplmaaW.PrintWords Go.Proofs.YtdadhificeplmaaW.PrintLast Go.Proofs.YtdadhificeplmaaW.PrintMore
attribute [local go_sem] max2_int min2_int max_two min_two max_three min_three max_four min_four   -- for this text's walks alone
set_option linter.unusedVariables false
set_option linter.unusedSimpArgs false

end Go.Proofs.Ytdadhificeplmaa.PAll
