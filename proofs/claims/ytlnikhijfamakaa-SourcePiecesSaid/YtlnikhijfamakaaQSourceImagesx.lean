/- Written by a program of this session (wip/mprint): the walk of the Go code, function by function, for every input; no condition. -/
import Derived.Test.YtlnikhijfamakaaQSourceImagesx0
import Derived.Test.YtlnikhijfamakaaQSourceImagesx1
import Derived.Test.YtlnikhijfamakaaQSourceImagesx2
import Derived.Test.YtlnikhijfamakaaQSourceImagesx3
import Derived.Test.YtlnikhijfamakaaQSourceImagesx4
import Derived.Test.YtlnikhijfamakaaQSourceImagesx5
import Derived.Test.YtlnikhijfamakaaQSourceImagesx6
import Derived.Test.YtlnikhijfamakaaQSourceImagesx7
import Derived.Test.YtlnikhijfamakaaQSourceImagesx8
namespace Go.Proofs.Ytlnikhijfamakaa.QSourceImages
open Go.RowKit Go.Proofs.YtlnikhijfamakaaW.PrintWords Go.Proofs.YtlnikhijfamakaaW.PrintLast Go.Proofs.YtlnikhijfamakaaW.PrintMore
attribute [local go_sem] max2_int min2_int max_two min_two max_three min_three max_four min_four   -- for this text's walks alone
set_option linter.unusedVariables false
set_option linter.unusedSimpArgs false

end Go.Proofs.Ytlnikhijfamakaa.QSourceImages
