/- SwapApart: for any two instructions, and any two that choices make, Apart is the document's; the numbers are of their kinds, nothing else is asked. -/
import Derived.Test.YticdodbnjlnjlaaSSwapApart
import Derived.Test.YticdodbnjlnjlaaSA
import Derived.Test.YticdodbnjlnjlaaMK
import Derived.Test.YticdodbnjlnjlaaKN
namespace Go.Proofs.Yticdodbnjlnjlaa.Pure
set_option linter.unusedVariables false
open Go Go.RowKit Go.Proofs.Yticdodbnjlnjlaa.Th Go.Proofs.Yticdodbnjlnjlaa.P Go.Proofs.Yticdodbnjlnjlaa.Opn Go.Proofs.YticdodbnjlnjlaaW.PrintWords Go.Proofs.YticdodbnjlnjlaaW.PrintLast Go.Proofs.YticdodbnjlnjlaaW.PrintMore
theorem SwapApart : Stmt.SwapApart := by
  rintro x0 x1 a b c d ⟨w0, _, _, _⟩ ⟨w1, _, _, _⟩ wa wb wc wd
  have r0 := wf_u8 w0
  have r1 := wf_u8 w1
  have ra := wf_u8 wa
  have rc := wf_u8 wc
  obtain ⟨r, hr, h0, h1⟩ := ins_ok a b 0 4 ra.1 ra.2
  obtain ⟨s, hs, h2, h3⟩ := ins_ok c d 1 4 rc.1 rc.2
  refine Ev.rounds (Ev.bind hr (Ev.bind hs (Ev.bind known_ev (ev_pos rfl ?_))))
  refine Ev.bind (apart_ev x0 x1 r0 r1) (Ev.bind (rapart_ev x0 x1 r0 r1) (ev_pos (beq_self_eq_true _) ?_))
  refine Ev.bind (apart_ev ⟨r.1, r.2.1, r.2.2.1, r.2.2.2⟩ ⟨s.1, s.2.1, s.2.2.1, s.2.2.2⟩ ⟨h0, by show r.1 ≤ 255; omega⟩ ⟨h2, by show s.1 ≤ 255; omega⟩) (Ev.bind (rapart_ev ⟨r.1, r.2.1, r.2.2.1, r.2.2.2⟩ ⟨s.1, s.2.1, s.2.2.1, s.2.2.2⟩ ⟨h0, by show r.1 ≤ 255; omega⟩ ⟨h2, by show s.1 ≤ 255; omega⟩) ?_)
  rw [beq_self_eq_true]
  exact Ev.now _
end Go.Proofs.Yticdodbnjlnjlaa.Pure
