-- written by this project's xprint.py (a turn of the kit's printer; its own texts among them)
import Derived.Test.YtkkhjfkgfmodnaaPx15
import Derived.Test.YtkkhjfkgfmodnaaOpnS
namespace Go.Proofs.Ytkkhjfkgfmodnaa.Stmt
open Go Go.RowKit Go.Proofs.Ytkkhjfkgfmodnaa.P Go.Proofs.Ytkkhjfkgfmodnaa.Opn Go.Proofs.YtkkhjfkgfmodnaaW.PrintWords Go.Proofs.YtkkhjfkgfmodnaaW.PrintLast Go.Proofs.YtkkhjfkgfmodnaaW.PrintMore
def IrSounds : Prop := ∀ (x0 : S26) (l1 : List (List Int)) (a2 : Int) (a3 : Int) (a4 : Int) (a5 : Int) (x6 : S30), WF26 x0 → (fun xs => xs.length ≤ 9223372036854775807 ∧ ∀ x ∈ xs, (fun xs => xs.length ≤ 9223372036854775807 ∧ ∀ x ∈ xs, (fun x => (Lit.int .u8 x).wf = true) x) x) l1 → (fun x => (Lit.int .u8 x).wf = true) a2 → (fun x => (Lit.int .u8 x).wf = true) a3 → (fun x => (Lit.int .u8 x).wf = true) a4 → (fun x => (Lit.int .i64 x).wf = true) a5 → WF30 x6 → ∃ k, interlocklaw02_IrSounds.f k x0.f0 x0.f1 x0.f2 x0.f3 x0.f4 x0.f5 x0.f6 l1 a2 a3 a4 a5 x6.f0 x6.f1 x6.f2 x6.f3 = some true
end Go.Proofs.Ytkkhjfkgfmodnaa.Stmt
