import Derived.Test.YtfiemikganhgeaaFS
import Derived.Test.YtfiemikganhgeaaSFlowRight
namespace Go.Proofs.Ytfiemikganhgeaa.Pure
set_option linter.unusedVariables false
open Go Go.RowKit Go.Proofs.Ytfiemikganhgeaa.P Go.Proofs.Ytfiemikganhgeaa.Opn Go.Proofs.Ytfiemikganhgeaa.Th Go.Proofs.YtfiemikganhgeaaW.PrintWords Go.Proofs.YtfiemikganhgeaaW.PrintLast Go.Proofs.YtfiemikganhgeaaW.PrintMore
theorem right_ok {ss : List (List Int)} {gs ks : List Int} {st : Int} {m back : Bool} (hg : W64 gs) (hk : W64 ks) (hst : 0 ≤ st ∧ st < 18446744073709551616) {a b : List Nat} (ha : a.length = ss.length) (hb : b.length = ss.length) (hsol : Sol (sysP ss gs ks st m back) (fn a) (fn b)) : rightB gs ks back (outcome back a b) = true := by
  have ok := sysP_ok (ss := ss) (ks := ks) (m := m) (back := back) hg hst
  have key : ∀ i, i < ss.length → rd (IntL b) (i : Int) = outI gs ks (i : Int) (rd (IntL a) (i : Int)) := fun i hi => by
    rw [IntL_rd, IntL_rd, out_nat hg hk i (hsol.alt ok i hi).1, hsol.outs i hi, hsol.ins i hi]
    rfl
  unfold rightB
  refine List.all_eq_true.2 (fun i hi => decide_eq_true ?_)
  have hi := List.mem_range.1 hi
  have la := IntL_len a
  have lb := IntL_len b
  cases back
  · exact key i (by have : i < (IntL a).length := hi; omega)
  · exact key i (by have : i < (IntL b).length := hi; omega)
theorem FlowRight : Stmt.FlowRight := by
  intro a0 l1 l2 l3 a4 a5 h0 h1 h2 h3 h4 h5
  have W2 := w64_of h2
  have W3 := w64_of h3
  obtain ⟨b0, b1⟩ := bounds_u8 h0
  obtain ⟨d0, d1⟩ := bounds_u64 h4
  have hst : 0 ≤ a4 ∧ a4 < 18446744073709551616 := ⟨d0, by omega⟩
  have hby : ∀ x ∈ l1, 0 ≤ x ∧ x ≤ 255 := fun x hx => by obtain ⟨q0, q1⟩ := bounds_u8 (h1.2 x hx); exact ⟨q0, by omega⟩
  refine Ev.rounds (r := true) ?_
  unfold interlocklaw13_FlowRight.f
  refine Ev.bind known_ev (ev_pos rfl ?_)
  by_cases c1 : (l2.length : Int) > 70
  · exact ev_pos c1 (Ev.now _)
  refine ev_neg c1 ?_
  by_cases c2 : (l3.length : Int) > 70
  · exact ev_pos c2 (Ev.now _)
  refine ev_neg c2 ?_
  obtain ⟨g, g1, g2, g3, g4⟩ := graph_ev a0 l1 ⟨b0, by omega⟩ hby
  obtain ⟨a, b, ha, hb, hsol, he⟩ := flow_ev g l2 l3 a4 (mOf a5) (bOf a5) (by omega) (fun i _ => by have := g4 i; omega) W2 W3 hst
  refine Ev.bind g1 (Ev.bind he ?_)
  have e1 : (outcome (bOf a5) a b).1.length = g.length := by cases bOf a5 <;> first | exact (IntL_len a).trans ha | exact (IntL_len b).trans hb
  have e2 : (outcome (bOf a5) a b).2.length = g.length := by cases bOf a5 <;> first | exact (IntL_len b).trans hb | exact (IntL_len a).trans ha
  exact ev_pos e1 (ev_pos e2 (ev_pos (right_ok W2 W3 hst ha hb hsol) (Ev.now _)))
end Go.Proofs.Ytfiemikganhgeaa.Pure
