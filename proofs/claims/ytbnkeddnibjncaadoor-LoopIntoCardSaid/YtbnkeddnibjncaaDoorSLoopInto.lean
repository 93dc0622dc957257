-- written by this project's xprint.py (a turn of the kit's printer; its own texts among them)
import Derived.Test.YtbnkeddnibjncaaDoorPx8
import Derived.Test.YtbnkeddnibjncaaDoorOpnS
namespace Go.Proofs.YtbnkeddnibjncaaDoor.Stmt
open Go Go.RowKit Go.Proofs.YtbnkeddnibjncaaDoor.P Go.Proofs.YtbnkeddnibjncaaDoor.Opn Go.Proofs.YtbnkeddnibjncaaDoorW.PrintWords Go.Proofs.YtbnkeddnibjncaaDoorW.PrintLast Go.Proofs.YtbnkeddnibjncaaDoorW.PrintMore
def LoopInto : Prop := ∀ (a0 : Int) (l1 : List Int), (fun x => (Lit.int .u8 x).wf = true) a0 → (fun xs => xs.length ≤ 9223372036854775807 ∧ ∀ x ∈ xs, (fun x => (Lit.int .u8 x).wf = true) x) l1 → ∃ k, interlocklaw12_LoopInto.f k a0 l1 = some true
end Go.Proofs.YtbnkeddnibjncaaDoor.Stmt
