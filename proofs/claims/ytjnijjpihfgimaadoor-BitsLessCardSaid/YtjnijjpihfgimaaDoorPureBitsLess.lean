/- BitsLess: a set of all below a number has just these; both numbers are bytes, nothing else is asked. -/
import Derived.Test.YtjnijjpihfgimaaDoorSBitsLess
import Derived.Test.YtjnijjpihfgimaaDoorB5
namespace Go.Proofs.YtjnijjpihfgimaaDoor.Pure
open Go Go.RowKit Go.Proofs.YtjnijjpihfgimaaDoor.P Go.Proofs.YtjnijjpihfgimaaDoor.Th Go.Proofs.YtjnijjpihfgimaaDoor.Pl Go.Proofs.YtjnijjpihfgimaaDoor.Opn Go.Proofs.YtjnijjpihfgimaaDoorW.PrintWords Go.Proofs.YtjnijjpihfgimaaDoorW.PrintLast Go.Proofs.YtjnijjpihfgimaaDoorW.PrintMore
theorem first_all : ∀ n : Nat, n < 65 → ∀ j : Nat, j < 64 → (It.firstOf (allN n) j == j) = decide ((j : Int) < n) := by decide +kernel
theorem BitsLess : Stmt.BitsLess := by
  intro a0 a1 h0 h1
  obtain ⟨n, rfl, hn⟩ := byte_of h0
  obtain ⟨j, rfl, hj⟩ := byte_of h1
  refine Ev.rounds ?_
  unfold interlocklaw01_BitsLess.f
  rw [mod65, mod64]
  have hn' := Nat.mod_lt n (show 0 < 65 by decide)
  have hj' := Nat.mod_lt j (show 0 < 64 by decide)
  generalize n % 65 = m at hn' ⊢
  generalize j % 64 = i at hj' ⊢
  refine Ev.bind known_ev (ev_if rfl ?_)
  refine Ev.congr (fun k => by rw [all_f, Option.bind_some, has_f _ (allN_lt _), Option.bind_some]) (ev_if ?_ ?_)
  · rw [decide_eq_true (by omega), Bool.true_and, Int.toNat_natCast, allN_bit _ _ hj', beq_self_eq_true]
  · refine Ev.congr (fun k => by rw [Option.bind_some, first_f _ (allN_lt _), Option.bind_some]) ?_
    rw [first_all m hn' i hj', beq_self_eq_true]
    exact Ev.now _
end Go.Proofs.YtjnijjpihfgimaaDoor.Pure
