/- Entries, plainly: the reference's payload and frame, and a frame that is read back, whatever stands ahead and behind. -/
import Derived.Test.YtogjnipojakfjaaLEnt
import Derived.Test.YtogjnipojakfjaaLSame
import Derived.Test.YtogjnipojakfjaaPJnx1
import Derived.Test.YtogjnipojakfjaaPJnx4
namespace Go.Proofs.Ytogjnipojakfjaa.LEnt
open Go.RowKit Go.Proofs.Ytogjnipojakfjaa.PJn Go.Proofs.YtogjnipojakfjaaW.PrintWords Go.Proofs.YtogjnipojakfjaaW.PrintLast Go.Proofs.YtogjnipojakfjaaW.PrintMore
set_option linter.unusedVariables false
set_option linter.unusedSimpArgs false
end Go.Proofs.Ytogjnipojakfjaa.LEnt
