/- Written by a program of this session (wip/mprint): the walk of the Go code, function by function, for every input; no condition. -/
import Derived.Test.YtlnikhijfamakaaQArrayJoinsx0
import Derived.Test.YtlnikhijfamakaaQArrayJoinsx1
import Derived.Test.YtlnikhijfamakaaQArrayJoinsx2
import Derived.Test.YtlnikhijfamakaaQArrayJoinsx3
import Derived.Test.YtlnikhijfamakaaQArrayJoinsx4
import Derived.Test.YtlnikhijfamakaaQArrayJoinsx5
import Derived.Test.YtlnikhijfamakaaQArrayJoinsx6
import Derived.Test.YtlnikhijfamakaaQArrayJoinsx7
import Derived.Test.YtlnikhijfamakaaQArrayJoinsx8
import Derived.Test.YtlnikhijfamakaaQArrayJoinsx9
namespace Go.Proofs.Ytlnikhijfamakaa.QArrayJoins
open Go.RowKit Go.Proofs.YtlnikhijfamakaaW.PrintWords Go.Proofs.YtlnikhijfamakaaW.PrintLast Go.Proofs.YtlnikhijfamakaaW.PrintMore
attribute [local go_sem] max2_int min2_int max_two min_two max_three min_three max_four min_four   -- for this text's walks alone
set_option linter.unusedVariables false
set_option linter.unusedSimpArgs false

end Go.Proofs.Ytlnikhijfamakaa.QArrayJoins
