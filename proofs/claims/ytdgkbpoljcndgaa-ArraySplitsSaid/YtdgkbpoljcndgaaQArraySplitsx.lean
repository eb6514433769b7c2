/- Written by a program of this session (wip/mprint): the walk of the Go code, function by function, for every input; no condition. -/
import Derived.Test.YtdgkbpoljcndgaaQArraySplitsx0
import Derived.Test.YtdgkbpoljcndgaaQArraySplitsx1
import Derived.Test.YtdgkbpoljcndgaaQArraySplitsx2
import Derived.Test.YtdgkbpoljcndgaaQArraySplitsx3
namespace Go.Proofs.Ytdgkbpoljcndgaa.QArraySplits
open Go.RowKit Go.Proofs.YtdgkbpoljcndgaaW.PrintWords Go.Proofs.YtdgkbpoljcndgaaW.PrintLast Go.Proofs.YtdgkbpoljcndgaaW.PrintMore
attribute [local go_sem] max2_int min2_int max_two min_two max_three min_three max_four min_four   -- for this text's walks alone
set_option linter.unusedVariables false
set_option linter.unusedSimpArgs false

end Go.Proofs.Ytdgkbpoljcndgaa.QArraySplits
