/- The plain law of Names: the functions that print.sh wrote for it answer true at every input that the row admits; no condition of its own. -/
import Derived.Test.YtpokjdkckdajeaaPNamesx1
namespace Go.Proofs.Ytpokjdkckdajeaa.Pure
open Go.RowKit Go.Proofs.Ytpokjdkckdajeaa.PNames Go.Proofs.YtpokjdkckdajeaaW.PrintWords Go.Proofs.YtpokjdkckdajeaaW.PrintLast

-- BODY
theorem Names : creellaw_Names.Pure := ⟨17, by decide +kernel⟩

end Go.Proofs.Ytpokjdkckdajeaa.Pure
