import Derived.Test.YticdodbnjlnjlaaSW3
import Derived.Test.YticdodbnjlnjlaaMK
namespace Go.Proofs.Yticdodbnjlnjlaa.Th
set_option linter.unusedVariables false
open Go Go.RowKit Go.Proofs.Yticdodbnjlnjlaa.P Go.Proofs.Yticdodbnjlnjlaa.Opn Go.Proofs.YticdodbnjlnjlaaW.PrintWords Go.Proofs.YticdodbnjlnjlaaW.PrintLast Go.Proofs.YticdodbnjlnjlaaW.PrintMore
theorem tmod_in (a : Int) (n : Nat) (ha : 0 ≤ a ∧ a ≤ 255) (hn : 0 < n) : ∃ m : Nat, Int.tmod (wrap64 a) (n : Int) = (m : Int) ∧ m < n := by
  rw [w64 (by omega) (by omega)]
  obtain ⟨q, rfl⟩ : ∃ q : Nat, a = (q : Int) := ⟨a.toNat, by omega⟩
  exact ⟨q % n, rfl, Nat.mod_lt _ hn⟩
/-- Two places side by side are of one row just if no row begins at the second. -/
theorem same_row (c : List S33) (hc : OpsOK c) (hl : c.length ≤ 140737488355328) (i : Nat) (hi : i + 1 < c.length) : ∃ a b : Nat, Ev (fun k => interlockref11_Head.f k c (i : Int)) (a : Int) ∧ Ev (fun k => interlockref11_Head.f k c ((i + 1 : Nat) : Int)) (b : Int) ∧ (a = b ↔ hb c (i + 1) = false) := by
  obtain ⟨a, ha, h1⟩ := rHead_in c hc hl i (by omega)
  obtain ⟨b, hb', h2⟩ := rHead_in c hc hl (i + 1) hi
  refine ⟨a, b, ha, hb', ?_⟩
  constructor
  · intro e
    subst e
    exact h2.2.2 (i + 1) (by have := h1.1; omega) (Nat.le_refl _)
  · intro e
    refine HeadS.one (i := i + 1) ⟨by have := h1.1; omega, h1.2.1, fun j h3 h4 => ?_⟩ h2
    by_cases ej : j = i + 1
    · rw [ej]; exact e
    · exact h1.2.2 j h3 (by omega)
theorem rank_load {x : Int} (h : rankN x = 0) : x = 7 := by
  unfold rankN at h
  split at h
  · assumption
  · split at h
    · cases h
    · split at h <;> cases h
end Go.Proofs.Yticdodbnjlnjlaa.Th
