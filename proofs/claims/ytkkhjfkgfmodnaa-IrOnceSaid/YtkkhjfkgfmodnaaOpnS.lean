-- written by this project's xprint.py (a turn of the kit's printer; its own texts among them)
import Derived.Test.YtkkhjfkgfmodnaaPx0
import Derived.Test.YtkkhjfkgfmodnaaOpn
namespace Go.Proofs.Ytkkhjfkgfmodnaa.Opn
open Go Go.RowKit Go.Proofs.Ytkkhjfkgfmodnaa.P Go.Proofs.YtkkhjfkgfmodnaaW.PrintWords
end Go.Proofs.Ytkkhjfkgfmodnaa.Opn
