-- written by this project's xprint.py (a turn of the kit's printer; its own texts among them)
import Derived.Test.YtfiemikganhgeaaPx6
import Derived.Test.YtfiemikganhgeaaOpnS
namespace Go.Proofs.Ytfiemikganhgeaa.Stmt
open Go Go.RowKit Go.Proofs.Ytfiemikganhgeaa.P Go.Proofs.Ytfiemikganhgeaa.Opn Go.Proofs.YtfiemikganhgeaaW.PrintWords Go.Proofs.YtfiemikganhgeaaW.PrintLast Go.Proofs.YtfiemikganhgeaaW.PrintMore
def FlowChain : Prop := ∀ (l0 : List Int) (l1 : List Int) (a2 : Int) (a3 : Bool), (fun xs => xs.length ≤ 9223372036854775807 ∧ ∀ x ∈ xs, (fun x => (Lit.int .u64 x).wf = true) x) l0 → (fun xs => xs.length ≤ 9223372036854775807 ∧ ∀ x ∈ xs, (fun x => (Lit.int .u64 x).wf = true) x) l1 → (fun x => (Lit.int .u64 x).wf = true) a2 → ∃ k, interlocklaw13_FlowChain.f k l0 l1 a2 a3 = some true
end Go.Proofs.Ytfiemikganhgeaa.Stmt
