-- Written by a program of this session (px.py) out of the translation's print. Not trusted: Lean checks it.
import Derived.Test.YtloagejeeakikaaDoorQB0
import Derived.Test.YtloagejeeakikaaDoorQB1
import Derived.Test.YtloagejeeakikaaDoorQB2
import Derived.Test.YtloagejeeakikaaDoorQB3
import Derived.Test.YtloagejeeakikaaDoorQB4
import Derived.Test.YtloagejeeakikaaDoorQB5
import Derived.Test.YtloagejeeakikaaDoorQB6
import Derived.Test.YtloagejeeakikaaDoorQB7
import Derived.Test.YtloagejeeakikaaDoorQB8
import Derived.Test.YtloagejeeakikaaDoorQB9
import Derived.Test.YtloagejeeakikaaDoorQB10
import Derived.Test.YtloagejeeakikaaDoorQB11
import Derived.Test.YtloagejeeakikaaDoorQB12
import Derived.Test.YtloagejeeakikaaDoorQB13
import Derived.Test.YtloagejeeakikaaDoorQB14
import Derived.Test.YtloagejeeakikaaDoorQB15
namespace Go.Proofs.YtloagejeeakikaaDoor.QB
open Go.RowKit Go.Proofs.YtloagejeeakikaaDoorW.PrintWords Go.Proofs.YtloagejeeakikaaDoorW.PrintLast Go.Proofs.YtloagejeeakikaaDoorW.PrintMore
attribute [local go_sem] max2_int min2_int max_two min_two max_three min_three max_four min_four   -- for this text's walks alone
set_option linter.unusedVariables false
set_option linter.unusedSimpArgs false

end Go.Proofs.YtloagejeeakikaaDoor.QB
