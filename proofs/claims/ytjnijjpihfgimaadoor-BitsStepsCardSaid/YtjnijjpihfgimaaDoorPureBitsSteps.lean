/- BitsSteps: going on by First, from behind the last one, all numbers of any set are come to, rising; the set is a uint64, nothing else is asked. -/
import Derived.Test.YtjnijjpihfgimaaDoorSBitsSteps
import Derived.Test.YtjnijjpihfgimaaDoorB5
namespace Go.Proofs.YtjnijjpihfgimaaDoor.Pure
open Go Go.RowKit Go.Proofs.YtjnijjpihfgimaaDoor.P Go.Proofs.YtjnijjpihfgimaaDoor.Th Go.Proofs.YtjnijjpihfgimaaDoor.Pl Go.Proofs.YtjnijjpihfgimaaDoor.Opn Go.Proofs.YtjnijjpihfgimaaDoorW.PrintWords Go.Proofs.YtjnijjpihfgimaaDoorW.PrintLast Go.Proofs.YtjnijjpihfgimaaDoorW.PrintMore
theorem nints_sorted (s : Nat) : (It.nints s).Pairwise (· < ·) := by
  unfold It.nints bnums
  rw [List.pairwise_map]
  exact (List.pairwise_lt_range.filter _).imp (fun h => by omega)
theorem nints_range (s : Nat) : ∀ x ∈ It.nints s, 0 ≤ x ∧ x < 64 := fun x h => by
  obtain ⟨i, hi, rfl⟩ := List.mem_map.1 h
  have := ((mem_bnums s i).1 hi).1
  omega
/-- What is not below m, first. -/
theorem find_at (l : List Int) (i : Nat) (m : Int) (h1 : ∀ j, j < i → ∀ (h : j < l.length), l[j] < m) (h2 : ∀ j, i ≤ j → ∀ (h : j < l.length), m ≤ l[j]) :
    l.find? (fun x => decide (m ≤ x)) = l[i]? := by
  by_cases hi : i < l.length
  · rw [List.getElem?_eq_getElem hi, List.find?_eq_some_iff_getElem]
    refine ⟨decide_eq_true (h2 i (Nat.le_refl _) hi), i, hi, rfl, fun j hj => ?_⟩
    have := h1 j hj (by omega)
    simp; omega
  · rw [List.getElem?_eq_none (by omega), List.find?_eq_none]
    intro x hx
    obtain ⟨j, hj, rfl⟩ := List.mem_iff_getElem.1 hx
    have := h1 j (by omega) hj
    simp; omega
theorem steps_l (s : Nat) (hs : s < 18446744073709551616) : ∀ (d i : Nat) (m : Int), i + d = (It.nints s).length → (∀ j, j < i → ∀ (h : j < (It.nints s).length), (It.nints s)[j] < m) → (∀ j, i ≤ j → ∀ (h : j < (It.nints s).length), m ≤ (It.nints s)[j]) →
    Ev (fun k => interlocklaw01_BitsSteps.l0 k (s : Int) (It.nints s) m (i : Int)) true := by
  have hlen := It.nints_len s
  have hso := nints_sorted s
  have hra := nints_range s
  have hfo := firstOf_eq s
  generalize It.nints s = l at hlen hso hra hfo
  intro d
  induction d with
  | zero =>
    intro i m hi h1 h2
    refine Ev.step (fun k => by simp only [interlocklaw01_BitsSteps.l0]; rw [if_neg (by omega)]) (Ev.bind known_ev (ev_if rfl ?_))
    refine Ev.congr (fun k => by rw [first_f s hs, Option.bind_some]) ?_
    rw [hfo, find_at l i m h1 h2, List.getElem?_eq_none (by omega)]
    exact Ev.now _
  | succ d ih =>
    intro i m hi h1 h2
    have hlt : i < l.length := by omega
    have E1 : Aside0 (wrap64 ((i : Int) + 1) = ((i + 1 : Nat) : Int)) := ⟨by rw [w64 (by omega) (by omega)]; rfl⟩
    have hx := hra l[i] (List.getElem_mem hlt)
    have E2 : Aside0 (wrap64 (l[i] + 1) = l[i] + 1) := ⟨w64 (by omega) (by omega)⟩
    have hg : l.getD i 0 = l[i] := by rw [List.getD_eq_getElem?_getD, List.getElem?_eq_getElem hlt]; rfl
    have h := ih (i + 1) (l[i] + 1) (by omega)
      (fun j hj h => by
        by_cases e : j = i
        · subst e; omega
        · have := List.pairwise_iff_getElem.1 hso j i h hlt (by omega); omega)
      (fun j hj h => by have := List.pairwise_iff_getElem.1 hso i j hlt h (by omega); omega)
    refine Ev.step (fun k => by simp only [interlocklaw01_BitsSteps.l0]; rw [if_pos (by omega), first_f s hs, Option.bind_some, if_pos (by omega), hfo, find_at l i m h1 h2, List.getElem?_eq_getElem hlt, Option.getD_some, rd_nat, hg, if_pos rfl, E1.out, E2.out]) h
theorem BitsSteps : Stmt.BitsSteps := by
  intro a0 h0
  obtain ⟨s, rfl, hs⟩ := set_of h0
  refine Ev.rounds ?_
  unfold interlocklaw01_BitsSteps.f
  refine Ev.congr (fun k => by rw [list_f s hs, Option.bind_some]) ?_
  exact steps_l s hs _ 0 0 (Nat.zero_add _) (fun j hj => by omega) (fun j _ h => (nints_range s _ (List.getElem_mem h)).1)
end Go.Proofs.YtjnijjpihfgimaaDoor.Pure
