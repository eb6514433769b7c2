/- Written by a program of this session (wip/mprint): the walk of the Go code, function by function, for every input; no condition. -/
import Derived.Test.YtgkjkhhppmnajaaZQPackOpensx0
import Derived.Test.YtgkjkhhppmnajaaZQPackOpensx1
import Derived.Test.YtgkjkhhppmnajaaZQPackOpensx2
import Derived.Test.YtgkjkhhppmnajaaZQPackOpensx3
import Derived.Test.YtgkjkhhppmnajaaZQPackOpensx4
import Derived.Test.YtgkjkhhppmnajaaZQPackOpensx5
import Derived.Test.YtgkjkhhppmnajaaZQPackOpensx6
import Derived.Test.YtgkjkhhppmnajaaZQPackOpensx7
import Derived.Test.YtgkjkhhppmnajaaZQPackOpensx8
import Derived.Test.YtgkjkhhppmnajaaZQPackOpensx9
import Derived.Test.YtgkjkhhppmnajaaZQPackOpensx10
namespace Go.Proofs.Ytgkjkhhppmnajaa.QPackOpens
open Go.RowKit Go.Proofs.YtgkjkhhppmnajaaW.PrintWords Go.Proofs.YtgkjkhhppmnajaaW.PrintLast Go.Proofs.YtgkjkhhppmnajaaW.PrintMore
attribute [local go_sem] max2_int min2_int max_two min_two max_three min_three max_four min_four   -- for this text's walks alone
set_option linter.unusedVariables false
set_option linter.unusedSimpArgs false
end Go.Proofs.Ytgkjkhhppmnajaa.QPackOpens
