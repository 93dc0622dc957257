/- BitsBack: any set is what its numbers make, without them it is nothing, and there are as many of them as Count says; the set is a uint64, nothing else is asked. -/
import Derived.Test.YtjnijjpihfgimaaDoorSBitsBack
import Derived.Test.YtjnijjpihfgimaaDoorB5
namespace Go.Proofs.YtjnijjpihfgimaaDoor.Pure
open Go Go.RowKit Go.Proofs.YtjnijjpihfgimaaDoor.P Go.Proofs.YtjnijjpihfgimaaDoor.Th Go.Proofs.YtjnijjpihfgimaaDoor.Opn Go.Proofs.YtjnijjpihfgimaaDoorW.PrintWords Go.Proofs.YtjnijjpihfgimaaDoorW.PrintLast Go.Proofs.YtjnijjpihfgimaaDoorW.PrintMore
theorem BitsBack : Stmt.BitsBack := by
  intro a0 h0
  obtain ⟨s, rfl, hs⟩ := set_of h0
  refine Ev.rounds ?_
  unfold interlocklaw01_BitsBack.f
  refine Ev.congr (fun k => by rw [list_f s hs, Option.bind_some]) ?_
  have hl : (It.nints s).length ≤ 4611686018427387904 := Nat.le_trans (It.nints_len s) (by decide)
  refine Ev.bind known_ev (ev_if rfl (Ev.bind (with_ev (It.nints s) hl 0 (by decide)) (ev_eq (by rw [with_nints s hs]) (Ev.bind (without_ev (It.nints s) hl s hs) (ev_eq (by rw [without_nints s hs]; rfl) ?_)))))
  refine Ev.congr (fun k => by rw [count_f s hs, Option.bind_some]) ?_
  rw [beq_self_eq_true]
  exact Ev.now _
end Go.Proofs.YtjnijjpihfgimaaDoor.Pure
