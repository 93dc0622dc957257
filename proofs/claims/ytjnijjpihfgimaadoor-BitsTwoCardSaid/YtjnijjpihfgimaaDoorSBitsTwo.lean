-- written by this project's xprint.py (a turn of the kit's printer; its own texts among them)
import Derived.Test.YtjnijjpihfgimaaDoorPx2
import Derived.Test.YtjnijjpihfgimaaDoorOpnS
namespace Go.Proofs.YtjnijjpihfgimaaDoor.Stmt
open Go Go.RowKit Go.Proofs.YtjnijjpihfgimaaDoor.P Go.Proofs.YtjnijjpihfgimaaDoor.Opn Go.Proofs.YtjnijjpihfgimaaDoorW.PrintWords Go.Proofs.YtjnijjpihfgimaaDoorW.PrintLast Go.Proofs.YtjnijjpihfgimaaDoorW.PrintMore
def BitsTwo : Prop := ∀ (a0 : Int) (l1 : List Int), (fun x => (Lit.int .u64 x).wf = true) a0 → (fun xs => xs.length ≤ 9223372036854775807 ∧ ∀ x ∈ xs, (fun x => (Lit.int .u8 x).wf = true) x) l1 → ∃ k, interlocklaw01_BitsTwo.f k a0 l1 = some true
end Go.Proofs.YtjnijjpihfgimaaDoor.Stmt
