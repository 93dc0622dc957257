-- written by this project's xprint.py (a turn of the kit's printer; its own texts among them)
import Derived.Test.YtjnijjpihfgimaaDoorPx4
import Derived.Test.YtjnijjpihfgimaaDoorOpnS
namespace Go.Proofs.YtjnijjpihfgimaaDoor.Stmt
open Go Go.RowKit Go.Proofs.YtjnijjpihfgimaaDoor.P Go.Proofs.YtjnijjpihfgimaaDoor.Opn Go.Proofs.YtjnijjpihfgimaaDoorW.PrintWords Go.Proofs.YtjnijjpihfgimaaDoorW.PrintLast Go.Proofs.YtjnijjpihfgimaaDoorW.PrintMore
def BitsWith : Prop := ∀ (a0 : Int) (l1 : List Int) (l2 : List Int), (fun x => (Lit.int .u64 x).wf = true) a0 → (fun xs => xs.length ≤ 9223372036854775807 ∧ ∀ x ∈ xs, (fun x => (Lit.int .i64 x).wf = true) x) l1 → (fun xs => xs.length ≤ 9223372036854775807 ∧ ∀ x ∈ xs, (fun x => (Lit.int .u8 x).wf = true) x) l2 → ∃ k, interlocklaw01_BitsWith.f k a0 l1 l2 = some true
end Go.Proofs.YtjnijjpihfgimaaDoor.Stmt
