import Derived.Test.YticdodbnjlnjlaaEV
import Derived.Test.YticdodbnjlnjlaaPx12
namespace Go.Proofs.Yticdodbnjlnjlaa.Th
open Go Go.RowKit Go.Proofs.Yticdodbnjlnjlaa.P Go.Proofs.Yticdodbnjlnjlaa.Opn Go.Proofs.YticdodbnjlnjlaaW.PrintWords Go.Proofs.YticdodbnjlnjlaaW.PrintLast Go.Proofs.YticdodbnjlnjlaaW.PrintMore
set_option maxRecDepth 100000 in
theorem known_16 : interlocklaw19_known.f 16 = some true := by kernel_rfl
theorem known_ev : Ev (fun k => interlocklaw19_known.f k) true := Ev.of interlocklaw19_known.mono (k := 16) known_16
theorem wf_u8 {x : Int} (h : (Lit.int .u8 x).wf = true) : 0 ≤ x ∧ x ≤ 255 := by
  have m1 : IntKind.u8.min = 0 := rfl
  have m2 : IntKind.u8.max = 255 := rfl
  simp [Lit.wf, m1, m2] at h
  exact ⟨by omega, by omega⟩
end Go.Proofs.Yticdodbnjlnjlaa.Th
