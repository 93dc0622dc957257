-- written by this project's xprint.py (a turn of the kit's printer; its own texts among them)
import Derived.Test.YtpmhkfpmadcneaaPx9
import Derived.Test.YtpmhkfpmadcneaaOpnS
namespace Go.Proofs.Ytpmhkfpmadcneaa.Stmt
open Go Go.RowKit Go.Proofs.Ytpmhkfpmadcneaa.P Go.Proofs.Ytpmhkfpmadcneaa.Opn Go.Proofs.YtpmhkfpmadcneaaW.PrintWords Go.Proofs.YtpmhkfpmadcneaaW.PrintLast Go.Proofs.YtpmhkfpmadcneaaW.PrintMore
def SegInto : Prop := ∀ (l0 : List (List Int)) (a1 : Int), (fun xs => xs.length ≤ 9223372036854775807 ∧ ∀ x ∈ xs, (fun xs => xs.length ≤ 9223372036854775807 ∧ ∀ x ∈ xs, (fun x => (Lit.int .u8 x).wf = true) x) x) l0 → (fun x => (Lit.int .u8 x).wf = true) a1 → ∃ k, interlocklaw11_SegInto.f k l0 a1 = some true
end Go.Proofs.Ytpmhkfpmadcneaa.Stmt
