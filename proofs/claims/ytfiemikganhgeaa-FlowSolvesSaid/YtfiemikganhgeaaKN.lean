import Derived.Test.YtfiemikganhgeaaFM
import Derived.Test.YtfiemikganhgeaaPx8
namespace Go.Proofs.Ytfiemikganhgeaa.Th
set_option linter.unusedVariables false
open Go Go.RowKit Go.Proofs.Ytfiemikganhgeaa.P Go.Proofs.Ytfiemikganhgeaa.Opn Go.Proofs.YtfiemikganhgeaaW.PrintWords Go.Proofs.YtfiemikganhgeaaW.PrintLast Go.Proofs.YtfiemikganhgeaaW.PrintMore
theorem known_ev : Ev (fun k => interlocklaw13_known.f k) true := Ev.of interlocklaw13_known.mono (k := 40) (by kernel_rfl)
end Go.Proofs.Ytfiemikganhgeaa.Th
