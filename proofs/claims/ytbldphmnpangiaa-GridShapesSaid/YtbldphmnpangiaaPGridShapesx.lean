-- written by a program of this session (wip/gen/print2.sh)
import Derived.Test.YtbldphmnpangiaaPGridShapesx0
import Derived.Test.YtbldphmnpangiaaPGridShapesx1
import Derived.Test.YtbldphmnpangiaaPGridShapesx2
import Derived.Test.YtbldphmnpangiaaPGridShapesx3
import Derived.Test.YtbldphmnpangiaaPGridShapesx4
import Derived.Test.YtbldphmnpangiaaPGridShapesx5
import Derived.Test.YtbldphmnpangiaaPGridShapesx6
import Derived.Test.YtbldphmnpangiaaPGridShapesx7
import Derived.Test.YtbldphmnpangiaaPGridShapesx8
import Derived.Test.YtbldphmnpangiaaPGridShapesx9
import Derived.Test.YtbldphmnpangiaaPGridShapesx10
import Derived.Test.YtbldphmnpangiaaPGridShapesx11
namespace Go.Proofs.Ytbldphmnpangiaa.PGridShapes
open Go.RowKit Go.Proofs.YtbldphmnpangiaaW.PrintWords Go.Proofs.YtbldphmnpangiaaW.PrintLast Go.Proofs.YtbldphmnpangiaaW.PrintMore
attribute [local go_sem] max2_int min2_int max_two min_two max_three min_three max_four min_four   -- for this text's walks alone
set_option linter.unusedVariables false
set_option linter.unusedSimpArgs false

end Go.Proofs.Ytbldphmnpangiaa.PGridShapes
