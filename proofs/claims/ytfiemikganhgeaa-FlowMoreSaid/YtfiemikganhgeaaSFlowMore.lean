-- written by this project's xprint.py (a turn of the kit's printer; its own texts among them)
import Derived.Test.YtfiemikganhgeaaPx5
import Derived.Test.YtfiemikganhgeaaOpnS
namespace Go.Proofs.Ytfiemikganhgeaa.Stmt
open Go Go.RowKit Go.Proofs.Ytfiemikganhgeaa.P Go.Proofs.Ytfiemikganhgeaa.Opn Go.Proofs.YtfiemikganhgeaaW.PrintWords Go.Proofs.YtfiemikganhgeaaW.PrintLast Go.Proofs.YtfiemikganhgeaaW.PrintMore
def FlowMore : Prop := ∀ (a0 : Int) (l1 : List Int) (l2 : List Int) (l3 : List Int) (a4 : Int) (a5 : Int) (a6 : Int) (a7 : Int), (fun x => (Lit.int .u8 x).wf = true) a0 → (fun xs => xs.length ≤ 9223372036854775807 ∧ ∀ x ∈ xs, (fun x => (Lit.int .u8 x).wf = true) x) l1 → (fun xs => xs.length ≤ 9223372036854775807 ∧ ∀ x ∈ xs, (fun x => (Lit.int .u64 x).wf = true) x) l2 → (fun xs => xs.length ≤ 9223372036854775807 ∧ ∀ x ∈ xs, (fun x => (Lit.int .u64 x).wf = true) x) l3 → (fun x => (Lit.int .u64 x).wf = true) a4 → (fun x => (Lit.int .u64 x).wf = true) a5 → (fun x => (Lit.int .u8 x).wf = true) a6 → (fun x => (Lit.int .u8 x).wf = true) a7 → ∃ k, interlocklaw13_FlowMore.f k a0 l1 l2 l3 a4 a5 a6 a7 = some true
end Go.Proofs.Ytfiemikganhgeaa.Stmt
