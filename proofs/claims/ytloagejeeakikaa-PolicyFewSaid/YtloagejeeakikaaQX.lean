-- Written by a program of this session (px.py) out of the translation's print. Not trusted: Lean checks it.
import Derived.Test.YtloagejeeakikaaQX0
import Derived.Test.YtloagejeeakikaaQX1
import Derived.Test.YtloagejeeakikaaQX2
import Derived.Test.YtloagejeeakikaaQX3
import Derived.Test.YtloagejeeakikaaQX4
import Derived.Test.YtloagejeeakikaaQX5
import Derived.Test.YtloagejeeakikaaQX6
import Derived.Test.YtloagejeeakikaaQX7
import Derived.Test.YtloagejeeakikaaQX8
import Derived.Test.YtloagejeeakikaaQX9
import Derived.Test.YtloagejeeakikaaQX10
import Derived.Test.YtloagejeeakikaaQX11
import Derived.Test.YtloagejeeakikaaQX12
import Derived.Test.YtloagejeeakikaaQX13
import Derived.Test.YtloagejeeakikaaQX14
import Derived.Test.YtloagejeeakikaaQX15
import Derived.Test.YtloagejeeakikaaQX16
import Derived.Test.YtloagejeeakikaaQX17
namespace Go.Proofs.Ytloagejeeakikaa.QX
open Go.RowKit Go.Proofs.YtloagejeeakikaaW.PrintWords Go.Proofs.YtloagejeeakikaaW.PrintLast Go.Proofs.YtloagejeeakikaaW.PrintMore
attribute [local go_sem] max2_int min2_int max_two min_two max_three min_three max_four min_four   -- for this text's walks alone
set_option linter.unusedVariables false
set_option linter.unusedSimpArgs false

end Go.Proofs.Ytloagejeeakikaa.QX
