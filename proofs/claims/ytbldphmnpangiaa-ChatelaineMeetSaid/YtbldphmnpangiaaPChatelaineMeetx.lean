-- written by a program of this session (wip/gen/print2.sh)
import Derived.Test.YtbldphmnpangiaaPChatelaineMeetx0
import Derived.Test.YtbldphmnpangiaaPChatelaineMeetx1
import Derived.Test.YtbldphmnpangiaaPChatelaineMeetx2
import Derived.Test.YtbldphmnpangiaaPChatelaineMeetx3
import Derived.Test.YtbldphmnpangiaaPChatelaineMeetx4
import Derived.Test.YtbldphmnpangiaaPChatelaineMeetx5
import Derived.Test.YtbldphmnpangiaaPChatelaineMeetx6
import Derived.Test.YtbldphmnpangiaaPChatelaineMeetx7
import Derived.Test.YtbldphmnpangiaaPChatelaineMeetx8
import Derived.Test.YtbldphmnpangiaaPChatelaineMeetx9
import Derived.Test.YtbldphmnpangiaaPChatelaineMeetx10
namespace Go.Proofs.Ytbldphmnpangiaa.PChatelaineMeet
open Go.RowKit Go.Proofs.YtbldphmnpangiaaW.PrintWords Go.Proofs.YtbldphmnpangiaaW.PrintLast Go.Proofs.YtbldphmnpangiaaW.PrintMore
attribute [local go_sem] max2_int min2_int max_two min_two max_three min_three max_four min_four   -- for this text's walks alone
set_option linter.unusedVariables false
set_option linter.unusedSimpArgs false

end Go.Proofs.Ytbldphmnpangiaa.PChatelaineMeet
