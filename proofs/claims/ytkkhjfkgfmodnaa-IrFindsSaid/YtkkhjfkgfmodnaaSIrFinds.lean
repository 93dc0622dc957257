-- written by this project's xprint.py (a turn of the kit's printer; its own texts among them)
import Derived.Test.YtkkhjfkgfmodnaaPx14
import Derived.Test.YtkkhjfkgfmodnaaOpnS
namespace Go.Proofs.Ytkkhjfkgfmodnaa.Stmt
open Go Go.RowKit Go.Proofs.Ytkkhjfkgfmodnaa.P Go.Proofs.Ytkkhjfkgfmodnaa.Opn Go.Proofs.YtkkhjfkgfmodnaaW.PrintWords Go.Proofs.YtkkhjfkgfmodnaaW.PrintLast Go.Proofs.YtkkhjfkgfmodnaaW.PrintMore
def IrFinds : Prop := ∀ (a0 : ByteArray) (a1 : Int), (fun s => s.size ≤ 9223372036854775807) a0 → (fun x => (Lit.int .u8 x).wf = true) a1 → ∃ k, interlocklaw02_IrFinds.f k a0 a1 = some true
end Go.Proofs.Ytkkhjfkgfmodnaa.Stmt
