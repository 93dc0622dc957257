-- written by this project's xprint.py (a turn of the kit's printer; its own texts among them)
import Derived.Test.YticdodbnjlnjlaaPx16
import Derived.Test.YticdodbnjlnjlaaOpnS
namespace Go.Proofs.Yticdodbnjlnjlaa.Stmt
open Go Go.RowKit Go.Proofs.Yticdodbnjlnjlaa.P Go.Proofs.Yticdodbnjlnjlaa.Opn Go.Proofs.YticdodbnjlnjlaaW.PrintWords Go.Proofs.YticdodbnjlnjlaaW.PrintLast Go.Proofs.YticdodbnjlnjlaaW.PrintMore
def SwapMoves : Prop := ∀ (l0 : List (List Int)) (a1 : Int), (fun xs => xs.length ≤ 9223372036854775807 ∧ ∀ x ∈ xs, (fun xs => xs.length ≤ 9223372036854775807 ∧ ∀ x ∈ xs, (fun x => (Lit.int .u8 x).wf = true) x) x) l0 → (fun x => (Lit.int .u8 x).wf = true) a1 → ∃ k, interlocklaw19_SwapMoves.f k l0 a1 = some true
end Go.Proofs.Yticdodbnjlnjlaa.Stmt
