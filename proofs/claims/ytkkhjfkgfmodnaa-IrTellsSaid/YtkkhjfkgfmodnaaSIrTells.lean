-- written by this project's xprint.py (a turn of the kit's printer; its own texts among them)
import Derived.Test.YtkkhjfkgfmodnaaPx13
import Derived.Test.YtkkhjfkgfmodnaaOpnS
namespace Go.Proofs.Ytkkhjfkgfmodnaa.Stmt
open Go Go.RowKit Go.Proofs.Ytkkhjfkgfmodnaa.P Go.Proofs.Ytkkhjfkgfmodnaa.Opn Go.Proofs.YtkkhjfkgfmodnaaW.PrintWords Go.Proofs.YtkkhjfkgfmodnaaW.PrintLast Go.Proofs.YtkkhjfkgfmodnaaW.PrintMore
def IrTells : Prop := ∀ (x0 : S30) (a1 : Int) (a2 : Int), WF30 x0 → (fun x => (Lit.int .u8 x).wf = true) a1 → (fun x => (Lit.int .u8 x).wf = true) a2 → ∃ k, interlocklaw02_IrTells.f k x0.f0 x0.f1 x0.f2 x0.f3 a1 a2 = some true
end Go.Proofs.Ytkkhjfkgfmodnaa.Stmt
