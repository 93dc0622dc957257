/- BitsAll: All of any number is what the reference says, and has as many numbers as it should; the numbers are an int and a byte, nothing else is asked. -/
import Derived.Test.YtjnijjpihfgimaaDoorSBitsAll
import Derived.Test.YtjnijjpihfgimaaDoorB5
namespace Go.Proofs.YtjnijjpihfgimaaDoor.Pure
open Go Go.RowKit Go.Proofs.YtjnijjpihfgimaaDoor.P Go.Proofs.YtjnijjpihfgimaaDoor.Th Go.Proofs.YtjnijjpihfgimaaDoor.Opn Go.Proofs.YtjnijjpihfgimaaDoorW.PrintWords Go.Proofs.YtjnijjpihfgimaaDoorW.PrintLast Go.Proofs.YtjnijjpihfgimaaDoorW.PrintMore
theorem BitsAll : Stmt.BitsAll := by
  intro a0 a1 h0 h1
  obtain ⟨b, rfl, hb⟩ := byte_of h1
  refine Ev.rounds ?_
  unfold interlocklaw01_BitsAll.f
  rw [mod70, mod65]
  refine Ev.bind known_ev (ev_if rfl ?_)
  refine Ev.congr (fun k => by rw [all_f, Option.bind_some]) (Ev.bind (rall_ev a0) (ev_eq rfl ?_))
  refine Ev.congr (fun k => by rw [all_f, Option.bind_some]) (Ev.bind (rall_ev _) (ev_eq rfl ?_))
  refine Ev.congr (fun k => by rw [all_f, Option.bind_some, count_f _ (allN_lt _), Option.bind_some]) ?_
  rw [count_all (b % 65) (Nat.mod_lt _ (by decide)), beq_self_eq_true]
  exact Ev.now _
end Go.Proofs.YtjnijjpihfgimaaDoor.Pure
