-- written by this project's xprint.py (a turn of the kit's printer; its own texts among them)
import Derived.Test.YtjnijjpihfgimaaDoorPx4
import Derived.Test.YtjnijjpihfgimaaDoorOpnS
namespace Go.Proofs.YtjnijjpihfgimaaDoor.Stmt
open Go Go.RowKit Go.Proofs.YtjnijjpihfgimaaDoor.P Go.Proofs.YtjnijjpihfgimaaDoor.Opn Go.Proofs.YtjnijjpihfgimaaDoorW.PrintWords Go.Proofs.YtjnijjpihfgimaaDoorW.PrintLast Go.Proofs.YtjnijjpihfgimaaDoorW.PrintMore
def BitsOne : Prop := ∀ (a0 : Int) (a1 : Int) (a2 : Int), (fun x => (Lit.int .u64 x).wf = true) a0 → (fun x => (Lit.int .u8 x).wf = true) a1 → (fun x => (Lit.int .u8 x).wf = true) a2 → ∃ k, interlocklaw01_BitsOne.f k a0 a1 a2 = some true
end Go.Proofs.YtjnijjpihfgimaaDoor.Stmt
