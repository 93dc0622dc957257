-- written by this project's xprint.py (a turn of the kit's printer; its own texts among them)
import Derived.Test.YtfiemikganhgeaaPx0
import Derived.Test.YtfiemikganhgeaaOpn
namespace Go.Proofs.Ytfiemikganhgeaa.Opn
open Go Go.RowKit Go.Proofs.Ytfiemikganhgeaa.P Go.Proofs.YtfiemikganhgeaaW.PrintWords
end Go.Proofs.Ytfiemikganhgeaa.Opn
