-- written by a program of this session (wip/gen/print2.sh)
import Derived.Test.YtbldphmnpangiaaPGridMeetsx0
import Derived.Test.YtbldphmnpangiaaPGridMeetsx1
import Derived.Test.YtbldphmnpangiaaPGridMeetsx2
import Derived.Test.YtbldphmnpangiaaPGridMeetsx3
import Derived.Test.YtbldphmnpangiaaPGridMeetsx4
import Derived.Test.YtbldphmnpangiaaPGridMeetsx5
import Derived.Test.YtbldphmnpangiaaPGridMeetsx6
namespace Go.Proofs.Ytbldphmnpangiaa.PGridMeets
open Go.RowKit Go.Proofs.YtbldphmnpangiaaW.PrintWords Go.Proofs.YtbldphmnpangiaaW.PrintLast Go.Proofs.YtbldphmnpangiaaW.PrintMore
attribute [local go_sem] max2_int min2_int max_two min_two max_three min_three max_four min_four   -- for this text's walks alone
set_option linter.unusedVariables false
set_option linter.unusedSimpArgs false

end Go.Proofs.Ytbldphmnpangiaa.PGridMeets
