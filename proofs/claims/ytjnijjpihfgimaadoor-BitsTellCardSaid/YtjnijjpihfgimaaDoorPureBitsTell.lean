/- BitsTell: Has, List, Count and First of any set are what the reference says; the set is a uint64, the numbers an int and a byte, nothing else is asked. -/
import Derived.Test.YtjnijjpihfgimaaDoorSBitsTell
import Derived.Test.YtjnijjpihfgimaaDoorB5
namespace Go.Proofs.YtjnijjpihfgimaaDoor.Pure
open Go Go.RowKit Go.Proofs.YtjnijjpihfgimaaDoor.P Go.Proofs.YtjnijjpihfgimaaDoor.Th Go.Proofs.YtjnijjpihfgimaaDoor.Opn Go.Proofs.YtjnijjpihfgimaaDoorW.PrintWords Go.Proofs.YtjnijjpihfgimaaDoorW.PrintLast Go.Proofs.YtjnijjpihfgimaaDoorW.PrintMore
theorem BitsTell : Stmt.BitsTell := by
  intro a0 a1 a2 h0 h1 h2
  obtain ⟨s, rfl, hs⟩ := set_of h0
  obtain ⟨b, rfl, hb⟩ := byte_of h2
  refine Ev.rounds ?_
  unfold interlocklaw01_BitsTell.f
  rw [mod70]
  have hl : (It.nints s).length ≤ 4611686018427387904 := Nat.le_trans (It.nints_len s) (by decide)
  refine Ev.bind (rlist_ev s hs) (Ev.bind known_ev (ev_if rfl ?_))
  refine Ev.congr (fun k => by rw [list_f s hs, Option.bind_some]) (Ev.bind (rsame_ev _ hl) (ev_if rfl ?_))
  refine Ev.congr (fun k => by rw [count_f s hs, Option.bind_some]) (ev_eq rfl ?_)
  refine Ev.congr (fun k => by rw [has_f s hs, Option.bind_some]) (Ev.bind (rhas_ev s hs a1) (ev_if (beq_self_eq_true _) ?_))
  refine Ev.congr (fun k => by rw [has_f s hs, Option.bind_some]) (Ev.bind (rhas_ev s hs _) (ev_if (beq_self_eq_true _) ?_))
  refine Ev.congr (fun k => by rw [first_f s hs, Option.bind_some]) (Ev.bind (rfirst_ev s hs a1) (ev_eq rfl ?_))
  refine Ev.congr (fun k => by rw [first_f s hs, Option.bind_some]) (Ev.bind (rfirst_ev s hs _) ?_)
  rw [beq_self_eq_true]
  exact Ev.now _
end Go.Proofs.YtjnijjpihfgimaaDoor.Pure
