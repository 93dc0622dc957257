import Derived.Test.YtfiemikganhgeaaRFB
import Derived.Test.YtfiemikganhgeaaSFlowSolves
namespace Go.Proofs.Ytfiemikganhgeaa.Pure
set_option linter.unusedVariables false
open Go Go.RowKit Go.Proofs.Ytfiemikganhgeaa.P Go.Proofs.Ytfiemikganhgeaa.Opn Go.Proofs.Ytfiemikganhgeaa.Th Go.Proofs.YtfiemikganhgeaaW.PrintWords Go.Proofs.YtfiemikganhgeaaW.PrintLast Go.Proofs.YtfiemikganhgeaaW.PrintMore
theorem FlowSolves : Stmt.FlowSolves := by
  intro x0 a1 l2 l3 l4 a5 a6 hx h1 h2 h3 h4 h5 h6
  obtain ⟨ss, gs, ks, st, m, back⟩ := x0
  obtain ⟨w0, w1, w2, w3, _, _⟩ := hx
  have w0 : ss.length ≤ 140737488351232 ∧ ∀ x ∈ ss, x.length ≤ 140737488351232 ∧ _ := w0
  have W1 : W64 gs := w64_of ⟨Nat.le_trans w1.1 (by decide), w1.2⟩
  have W2 : W64 ks := w64_of ⟨Nat.le_trans w2.1 (by decide), w2.2⟩
  have W3 : W64 l3 := w64_of ⟨Nat.le_trans h3.1 (by decide), h3.2⟩
  have W4 : W64 l4 := w64_of ⟨Nat.le_trans h4.1 (by decide), h4.2⟩
  obtain ⟨b0, b1⟩ := bounds_u8 h1
  obtain ⟨d0, d1⟩ := bounds_u64 h5
  obtain ⟨c0, c1⟩ := bounds_u64 w3
  have hst : 0 ≤ a5 ∧ a5 < 18446744073709551616 := ⟨d0, by omega⟩
  have hst2 : 0 ≤ st ∧ st < 18446744073709551616 := ⟨c0, by have := c1; simp only at this; omega⟩
  have hby : ∀ x ∈ l2, 0 ≤ x ∧ x ≤ 255 := fun x hx => by obtain ⟨q0, q1⟩ := bounds_u8 (h2.2 x hx); exact ⟨q0, by omega⟩
  refine Ev.rounds (r := true) ?_
  show Ev (fun k => interlocklaw13_FlowSolves.f k ss gs ks st m back a1 l2 l3 l4 a5 a6) true
  unfold interlocklaw13_FlowSolves.f
  refine Ev.bind known_ev (ev_pos rfl ?_)
  by_cases e1 : sumS ss ss.length > 100
  · exact ev_pos e1 (Ev.now _)
  refine ev_neg e1 ?_
  by_cases e2 : (l3.length : Int) > 70
  · exact ev_pos e2 (Ev.now _)
  refine ev_neg e2 ?_
  by_cases e3 : (l4.length : Int) > 70
  · exact ev_pos e3 (Ev.now _)
  refine ev_neg e3 ?_
  have hrow : ss.length ≤ 64 → ∀ i, i < ss.length → (ss.getD i []).length ≤ 900000 := fun hn i hi => by
    have := (sum_rows ss hn (fun q hq => by
      rw [List.getD_eq_getElem?_getD, List.getElem?_eq_getElem hq]
      exact (w0.2 _ (List.getElem_mem hq)).1) ss.length (Nat.le_refl _)).2.2 i hi
    omega
  refine Ev.bind (tells_ev ss gs ks st m back hrow W1 W2 hst2) (ev_pos rfl ?_)
  obtain ⟨g, g1, g2, g3, g4⟩ := graph_ev a1 l2 ⟨b0, by omega⟩ hby
  exact Ev.bind g1 (Ev.bind (tells_ev g l3 l4 a5 (mOf a6) (bOf a6) (fun _ i _ => by have := g4 i; omega) W3 W4 hst) (ev_pos rfl (Ev.now _)))
end Go.Proofs.Ytfiemikganhgeaa.Pure
