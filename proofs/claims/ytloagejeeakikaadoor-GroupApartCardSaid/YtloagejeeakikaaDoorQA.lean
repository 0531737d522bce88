-- Written by a program of this session (px.py) out of the translation's print. Not trusted: Lean checks it.
import Derived.Test.YtloagejeeakikaaDoorQA0
import Derived.Test.YtloagejeeakikaaDoorQA1
import Derived.Test.YtloagejeeakikaaDoorQA2
import Derived.Test.YtloagejeeakikaaDoorQA3
import Derived.Test.YtloagejeeakikaaDoorQA4
import Derived.Test.YtloagejeeakikaaDoorQA5
import Derived.Test.YtloagejeeakikaaDoorQA6
import Derived.Test.YtloagejeeakikaaDoorQA7
import Derived.Test.YtloagejeeakikaaDoorQA8
import Derived.Test.YtloagejeeakikaaDoorQA9
import Derived.Test.YtloagejeeakikaaDoorQA10
import Derived.Test.YtloagejeeakikaaDoorQA11
import Derived.Test.YtloagejeeakikaaDoorQA12
import Derived.Test.YtloagejeeakikaaDoorQA13
namespace Go.Proofs.YtloagejeeakikaaDoor.QA
open Go.RowKit Go.Proofs.YtloagejeeakikaaDoorW.PrintWords Go.Proofs.YtloagejeeakikaaDoorW.PrintLast Go.Proofs.YtloagejeeakikaaDoorW.PrintMore
attribute [local go_sem] max2_int min2_int max_two min_two max_three min_three max_four min_four   -- for this text's walks alone
set_option linter.unusedVariables false
set_option linter.unusedSimpArgs false

end Go.Proofs.YtloagejeeakikaaDoor.QA
