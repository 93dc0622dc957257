-- written by this project's xprint.py (a turn of the kit's printer; its own texts among them)
import Derived.Test.YtbnkeddnibjncaaDoorPx0
import Derived.Test.YtbnkeddnibjncaaDoorOpn
namespace Go.Proofs.YtbnkeddnibjncaaDoor.Opn
open Go Go.RowKit Go.Proofs.YtbnkeddnibjncaaDoor.P Go.Proofs.YtbnkeddnibjncaaDoorW.PrintWords
end Go.Proofs.YtbnkeddnibjncaaDoor.Opn
