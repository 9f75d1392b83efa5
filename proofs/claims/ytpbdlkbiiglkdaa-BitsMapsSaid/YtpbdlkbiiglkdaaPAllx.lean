-- PRINTED by print.py (a twelfth state) out of the translation. Not trusted: Lean checks it.
import Derived.Test.YtpbdlkbiiglkdaaPAllx0
import Derived.Test.YtpbdlkbiiglkdaaPAllx1
import Derived.Test.YtpbdlkbiiglkdaaPAllx2
import Derived.Test.YtpbdlkbiiglkdaaPAllx3
import Derived.Test.YtpbdlkbiiglkdaaPAllx4
import Derived.Test.YtpbdlkbiiglkdaaPAllx5
import Derived.Test.YtpbdlkbiiglkdaaPAllx6
import Derived.Test.YtpbdlkbiiglkdaaPAllx7
namespace Go.Proofs.Ytpbdlkbiiglkdaa.PAll
open Go.RowKit Go.Proofs.YtpbdlkbiiglkdaaW.PrintWords Go.Proofs.YtpbdlkbiiglkdaaW.PrintLast Go.Proofs.YtpbdlkbiiglkdaaW.PrintMore
attribute [local go_sem] max2_int min2_int max_two min_two max_three min_three max_four min_four   -- for this text's walks alone
set_option linter.unusedVariables false
set_option linter.unusedSimpArgs false

end Go.Proofs.Ytpbdlkbiiglkdaa.PAll
