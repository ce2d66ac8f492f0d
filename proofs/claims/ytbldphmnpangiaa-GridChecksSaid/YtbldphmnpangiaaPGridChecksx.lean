-- written by a program of this session (wip/gen/print2.sh)
import Derived.Test.YtbldphmnpangiaaPGridChecksx0
import Derived.Test.YtbldphmnpangiaaPGridChecksx1
import Derived.Test.YtbldphmnpangiaaPGridChecksx2
import Derived.Test.YtbldphmnpangiaaPGridChecksx3
import Derived.Test.YtbldphmnpangiaaPGridChecksx4
import Derived.Test.YtbldphmnpangiaaPGridChecksx5
import Derived.Test.YtbldphmnpangiaaPGridChecksx6
import Derived.Test.YtbldphmnpangiaaPGridChecksx7
import Derived.Test.YtbldphmnpangiaaPGridChecksx8
import Derived.Test.YtbldphmnpangiaaPGridChecksx9
namespace Go.Proofs.Ytbldphmnpangiaa.PGridChecks
open Go.RowKit Go.Proofs.YtbldphmnpangiaaW.PrintWords Go.Proofs.YtbldphmnpangiaaW.PrintLast Go.Proofs.YtbldphmnpangiaaW.PrintMore
attribute [local go_sem] max2_int min2_int max_two min_two max_three min_three max_four min_four   -- for this text's walks alone
set_option linter.unusedVariables false
set_option linter.unusedSimpArgs false

end Go.Proofs.Ytbldphmnpangiaa.PGridChecks
