-- written by a program of this session (wip/gen/print2.sh)
import Derived.Test.YtllagimocmdldaaPBallotOrderx0
import Derived.Test.YtllagimocmdldaaPBallotOrderx1
import Derived.Test.YtllagimocmdldaaPBallotOrderx2
import Derived.Test.YtllagimocmdldaaPBallotOrderx3
import Derived.Test.YtllagimocmdldaaPBallotOrderx4
import Derived.Test.YtllagimocmdldaaPBallotOrderx5
import Derived.Test.YtllagimocmdldaaPBallotOrderx6
namespace Go.Proofs.Ytllagimocmdldaa.PBallotOrder
open Go.RowKit Go.Proofs.YtllagimocmdldaaW.PrintWords Go.Proofs.YtllagimocmdldaaW.PrintLast Go.Proofs.YtllagimocmdldaaW.PrintMore
attribute [local go_sem] max2_int min2_int max_two min_two max_three min_three max_four min_four   -- for this text's walks alone
set_option linter.unusedVariables false
set_option linter.unusedSimpArgs false

end Go.Proofs.Ytllagimocmdldaa.PBallotOrder
