-- written by a program of this session (wip/gen/print2.sh)
import Derived.Test.YtbldphmnpangiaaPGridQuorumsx0
import Derived.Test.YtbldphmnpangiaaPGridQuorumsx1
import Derived.Test.YtbldphmnpangiaaPGridQuorumsx2
import Derived.Test.YtbldphmnpangiaaPGridQuorumsx3
import Derived.Test.YtbldphmnpangiaaPGridQuorumsx4
import Derived.Test.YtbldphmnpangiaaPGridQuorumsx5
import Derived.Test.YtbldphmnpangiaaPGridQuorumsx6
import Derived.Test.YtbldphmnpangiaaPGridQuorumsx7
import Derived.Test.YtbldphmnpangiaaPGridQuorumsx8
import Derived.Test.YtbldphmnpangiaaPGridQuorumsx9
import Derived.Test.YtbldphmnpangiaaPGridQuorumsx10
import Derived.Test.YtbldphmnpangiaaPGridQuorumsx11
namespace Go.Proofs.Ytbldphmnpangiaa.PGridQuorums
open Go.RowKit Go.Proofs.YtbldphmnpangiaaW.PrintWords Go.Proofs.YtbldphmnpangiaaW.PrintLast Go.Proofs.YtbldphmnpangiaaW.PrintMore
attribute [local go_sem] max2_int min2_int max_two min_two max_three min_three max_four min_four   -- for this text's walks alone
set_option linter.unusedVariables false
set_option linter.unusedSimpArgs false

end Go.Proofs.Ytbldphmnpangiaa.PGridQuorums
