-- written by this project's xprint.py (a turn of the kit's printer; its own texts among them)
import Derived.Test.YtkkhjfkgfmodnaaPx6
import Derived.Test.YtkkhjfkgfmodnaaOpnS
namespace Go.Proofs.Ytkkhjfkgfmodnaa.Stmt
open Go Go.RowKit Go.Proofs.Ytkkhjfkgfmodnaa.P Go.Proofs.Ytkkhjfkgfmodnaa.Opn Go.Proofs.YtkkhjfkgfmodnaaW.PrintWords Go.Proofs.YtkkhjfkgfmodnaaW.PrintLast Go.Proofs.YtkkhjfkgfmodnaaW.PrintMore
def IrRegs : Prop := ∀ (a0 : Int) (a1 : Int) (a2 : Int), (fun x => (Lit.int .i8 x).wf = true) a0 → (fun x => (Lit.int .i8 x).wf = true) a1 → (fun x => (Lit.int .i8 x).wf = true) a2 → ∃ k, interlocklaw02_IrRegs.f k a0 a1 a2 = some true
end Go.Proofs.Ytkkhjfkgfmodnaa.Stmt
