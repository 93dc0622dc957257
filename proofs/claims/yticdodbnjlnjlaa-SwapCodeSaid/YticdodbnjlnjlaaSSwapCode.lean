-- written by this project's xprint.py (a turn of the kit's printer; its own texts among them)
import Derived.Test.YticdodbnjlnjlaaPx14
import Derived.Test.YticdodbnjlnjlaaOpnS
namespace Go.Proofs.Yticdodbnjlnjlaa.Stmt
open Go Go.RowKit Go.Proofs.Yticdodbnjlnjlaa.P Go.Proofs.Yticdodbnjlnjlaa.Opn Go.Proofs.YticdodbnjlnjlaaW.PrintWords Go.Proofs.YticdodbnjlnjlaaW.PrintLast Go.Proofs.YticdodbnjlnjlaaW.PrintMore
def SwapCode : Prop := ∀ (l0 : List (S33)) (l1 : List (List Int)) (a2 : Int), (fun xs => xs.length ≤ 9223372036854775807 ∧ ∀ x ∈ xs, WF33 x) l0 → (fun xs => xs.length ≤ 9223372036854775807 ∧ ∀ x ∈ xs, (fun xs => xs.length ≤ 9223372036854775807 ∧ ∀ x ∈ xs, (fun x => (Lit.int .u8 x).wf = true) x) x) l1 → (fun x => (Lit.int .u8 x).wf = true) a2 → ∃ k, interlocklaw19_SwapCode.f k l0 l1 a2 = some true
end Go.Proofs.Yticdodbnjlnjlaa.Stmt
