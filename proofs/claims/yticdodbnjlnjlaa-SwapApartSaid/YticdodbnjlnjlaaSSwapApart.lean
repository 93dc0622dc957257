-- written by this project's xprint.py (a turn of the kit's printer; its own texts among them)
import Derived.Test.YticdodbnjlnjlaaPx16
import Derived.Test.YticdodbnjlnjlaaOpnS
namespace Go.Proofs.Yticdodbnjlnjlaa.Stmt
open Go Go.RowKit Go.Proofs.Yticdodbnjlnjlaa.P Go.Proofs.Yticdodbnjlnjlaa.Opn Go.Proofs.YticdodbnjlnjlaaW.PrintWords Go.Proofs.YticdodbnjlnjlaaW.PrintLast Go.Proofs.YticdodbnjlnjlaaW.PrintMore
def SwapApart : Prop := ∀ (x0 : S33) (x1 : S33) (a2 : Int) (a3 : Int) (a4 : Int) (a5 : Int), WF33 x0 → WF33 x1 → (fun x => (Lit.int .u8 x).wf = true) a2 → (fun x => (Lit.int .u8 x).wf = true) a3 → (fun x => (Lit.int .u8 x).wf = true) a4 → (fun x => (Lit.int .u8 x).wf = true) a5 → ∃ k, interlocklaw19_SwapApart.f k x0.f0 x0.f1 x0.f2 x0.f3 x1.f0 x1.f1 x1.f2 x1.f3 a2 a3 a4 a5 = some true
end Go.Proofs.Yticdodbnjlnjlaa.Stmt
