-- written by this project's xprint.py (a turn of the kit's printer; its own texts among them)
import Derived.Test.YtbnkeddnibjncaaDoorPx12
import Derived.Test.YtbnkeddnibjncaaDoorOpnS
namespace Go.Proofs.YtbnkeddnibjncaaDoor.Stmt
open Go Go.RowKit Go.Proofs.YtbnkeddnibjncaaDoor.P Go.Proofs.YtbnkeddnibjncaaDoor.Opn Go.Proofs.YtbnkeddnibjncaaDoorW.PrintWords Go.Proofs.YtbnkeddnibjncaaDoorW.PrintLast Go.Proofs.YtbnkeddnibjncaaDoorW.PrintMore
def LoopOf : Prop := ∀ (l0 : List (List Int)) (a1 : Int) (l2 : List Int) (l3 : List (List Int)), (fun xs => xs.length ≤ 140737488351232 ∧ ∀ x ∈ xs, (fun xs => xs.length ≤ 140737488351232 ∧ ∀ x ∈ xs, (fun x => (Lit.int .i64 x).wf = true) x) x) l0 → (fun x => (Lit.int .u8 x).wf = true) a1 → (fun xs => xs.length ≤ 140737488351232 ∧ ∀ x ∈ xs, (fun x => (Lit.int .u8 x).wf = true) x) l2 → (fun xs => xs.length ≤ 140737488351232 ∧ ∀ x ∈ xs, (fun xs => xs.length ≤ 140737488351232 ∧ ∀ x ∈ xs, (fun x => (Lit.int .u8 x).wf = true) x) x) l3 → ∃ k, interlocklaw12_LoopOf.f k l0 a1 l2 l3 = some true
end Go.Proofs.YtbnkeddnibjncaaDoor.Stmt
