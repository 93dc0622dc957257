import Derived.Test.YticdodbnjlnjlaaEV
import Derived.Test.YticdodbnjlnjlaaPx12
namespace Go.Proofs.Yticdodbnjlnjlaa.Th
set_option linter.unusedVariables false
open Go Go.RowKit Go.Proofs.Yticdodbnjlnjlaa.P Go.Proofs.Yticdodbnjlnjlaa.Opn Go.Proofs.YticdodbnjlnjlaaW.PrintWords Go.Proofs.YticdodbnjlnjlaaW.PrintLast Go.Proofs.YticdodbnjlnjlaaW.PrintMore
theorem sameCode_l0 (l : List S33) (hl : l.length ≤ 4611686018427387904) : ∀ (d i : Nat), i + d = l.length → Ev (fun k => interlockref02_SameCode.l0 k l l (i : Int)) true
  | 0, i, e => Ev.step (fun k => by simp only [interlockref02_SameCode.l0]; exact rfl) (ev_neg (by omega) (Ev.now _))
  | d + 1, i, e => by
    have e1 : wrap64 ((i : Int) + 1) = ((i + 1 : Nat) : Int) := up i (by omega)
    refine Ev.step (fun k => by simp only [interlockref02_SameCode.l0]; rw [e1]) ?_
    have := sameCode_l0 l hl d (i + 1) (by omega)
    exact ev_pos (by omega) (ev_pos (by omega) (ev_pos (by omega) (ev_neg (by simp) this)))
theorem sameCode_ev (l : List S33) (hl : l.length ≤ 4611686018427387904) : Ev (fun k => interlockref02_SameCode.f k l l) true := ev_pos rfl (sameCode_l0 l hl l.length 0 (by omega))
end Go.Proofs.Yticdodbnjlnjlaa.Th
