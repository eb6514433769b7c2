/- The statement Names over numbers and lists alone: a closed reckoning. No condition. -/
import Derived.Test.YtdgkbpoljcndgaaQNamesx3
namespace Go.Proofs.Ytdgkbpoljcndgaa.Pure
open Go Go.RowKit Go.Proofs.Ytdgkbpoljcndgaa.QNames Go.Proofs.YtdgkbpoljcndgaaW.PrintWords Go.Proofs.YtdgkbpoljcndgaaW.PrintLast Go.Proofs.YtdgkbpoljcndgaaW.PrintMore

theorem Names : wracklaw1_Names.Pure := ⟨40, by decide +kernel⟩

end Go.Proofs.Ytdgkbpoljcndgaa.Pure
