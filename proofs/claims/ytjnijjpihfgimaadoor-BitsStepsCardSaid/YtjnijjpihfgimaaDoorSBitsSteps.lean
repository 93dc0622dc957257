-- written by this project's xprint.py (a turn of the kit's printer; its own texts among them)
import Derived.Test.YtjnijjpihfgimaaDoorPx5
import Derived.Test.YtjnijjpihfgimaaDoorOpnS
namespace Go.Proofs.YtjnijjpihfgimaaDoor.Stmt
open Go Go.RowKit Go.Proofs.YtjnijjpihfgimaaDoor.P Go.Proofs.YtjnijjpihfgimaaDoor.Opn Go.Proofs.YtjnijjpihfgimaaDoorW.PrintWords Go.Proofs.YtjnijjpihfgimaaDoorW.PrintLast Go.Proofs.YtjnijjpihfgimaaDoorW.PrintMore
def BitsSteps : Prop := ∀ (a0 : Int), (fun x => (Lit.int .u64 x).wf = true) a0 → ∃ k, interlocklaw01_BitsSteps.f k a0 = some true
end Go.Proofs.YtjnijjpihfgimaaDoor.Stmt
