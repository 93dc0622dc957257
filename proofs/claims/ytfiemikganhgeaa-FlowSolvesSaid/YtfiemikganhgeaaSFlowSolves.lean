-- written by this project's xprint.py (a turn of the kit's printer; its own texts among them)
import Derived.Test.YtfiemikganhgeaaPx8
import Derived.Test.YtfiemikganhgeaaOpnS
namespace Go.Proofs.Ytfiemikganhgeaa.Stmt
open Go Go.RowKit Go.Proofs.Ytfiemikganhgeaa.P Go.Proofs.Ytfiemikganhgeaa.Opn Go.Proofs.YtfiemikganhgeaaW.PrintWords Go.Proofs.YtfiemikganhgeaaW.PrintLast Go.Proofs.YtfiemikganhgeaaW.PrintMore
def FlowSolves : Prop := ∀ (x0 : S31) (a1 : Int) (l2 : List Int) (l3 : List Int) (l4 : List Int) (a5 : Int) (a6 : Int), WF31 x0 → (fun x => (Lit.int .u8 x).wf = true) a1 → (fun xs => xs.length ≤ 140737488351232 ∧ ∀ x ∈ xs, (fun x => (Lit.int .u8 x).wf = true) x) l2 → (fun xs => xs.length ≤ 140737488351232 ∧ ∀ x ∈ xs, (fun x => (Lit.int .u64 x).wf = true) x) l3 → (fun xs => xs.length ≤ 140737488351232 ∧ ∀ x ∈ xs, (fun x => (Lit.int .u64 x).wf = true) x) l4 → (fun x => (Lit.int .u64 x).wf = true) a5 → (fun x => (Lit.int .u8 x).wf = true) a6 → ∃ k, interlocklaw13_FlowSolves.f k x0.f0 x0.f1 x0.f2 x0.f3 x0.f4 x0.f5 a1 l2 l3 l4 a5 a6 = some true
end Go.Proofs.Ytfiemikganhgeaa.Stmt
