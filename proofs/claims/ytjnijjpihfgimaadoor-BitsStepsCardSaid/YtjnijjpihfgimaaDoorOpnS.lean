-- written by this project's xprint.py (a turn of the kit's printer; its own texts among them)
import Derived.Test.YtjnijjpihfgimaaDoorPx0
import Derived.Test.YtjnijjpihfgimaaDoorOpn
namespace Go.Proofs.YtjnijjpihfgimaaDoor.Opn
open Go Go.RowKit Go.Proofs.YtjnijjpihfgimaaDoor.P Go.Proofs.YtjnijjpihfgimaaDoorW.PrintWords
end Go.Proofs.YtjnijjpihfgimaaDoor.Opn
