import Derived.Test.YtbnkeddnibjncaaDoorRZ
import Derived.Test.YtbnkeddnibjncaaDoorSLoopOf
namespace Go.Proofs.YtbnkeddnibjncaaDoor.Pure
set_option linter.unusedVariables false
open Go Go.RowKit Go.Proofs.YtbnkeddnibjncaaDoor.P Go.Proofs.YtbnkeddnibjncaaDoor.Opn Go.Proofs.YtbnkeddnibjncaaDoor.Th Go.Proofs.YtbnkeddnibjncaaDoorW.PrintWords Go.Proofs.YtbnkeddnibjncaaDoorW.PrintLast Go.Proofs.YtbnkeddnibjncaaDoorW.PrintMore
/-- The sum of so many rows, as it is reckoned. -/
def sm (ss : List (List Int)) : Nat → Int
  | 0 => 0
  | j + 1 => wrap64 (sm ss j + wrap64 (1 + ((ss.getD j []).length : Int)))
theorem sm_rows (ss : List (List Int)) (hn : ss.length ≤ 64) (hb : ∀ q, q < ss.length → (ss.getD q []).length ≤ 140737488351232) : ∀ j, j ≤ ss.length → 0 ≤ sm ss j ∧ sm ss j ≤ (j : Int) * 140737488351233 ∧ ∀ q, q < j → ((ss.getD q []).length : Int) ≤ sm ss j
  | 0, _ => ⟨Int.le_refl _, by rw [show sm ss 0 = 0 from rfl]; omega, fun q hq => by omega⟩
  | j + 1, hj => by
    obtain ⟨h1, h2, h3⟩ := sm_rows ss hn hb j (by omega)
    have h4 := hb j (by omega)
    have e1 : wrap64 (1 + ((ss.getD j []).length : Int)) = 1 + ((ss.getD j []).length : Int) := w64 (by omega) (by omega)
    have e2 : wrap64 (sm ss j + (1 + ((ss.getD j []).length : Int))) = sm ss j + (1 + ((ss.getD j []).length : Int)) := w64 (by omega) (by omega)
    have e : sm ss (j + 1) = sm ss j + (1 + ((ss.getD j []).length : Int)) := by
      show wrap64 (sm ss j + wrap64 (1 + ((ss.getD j []).length : Int))) = _
      rw [e1, e2]
    clear e1 e2
    rw [e]
    refine ⟨by omega, by omega, fun q hq => ?_⟩
    by_cases hc : q = j
    · subst hc; omega
    · have := h3 q (by omega); omega
theorem lo_l0 (ss : List (List Int)) (a1 : Int) (l2 : List Int) (l3 : List (List Int)) (hl : ss.length ≤ 140737488351232) (cont : Ev (fun k => if sm ss ss.length > 100 then interlocklaw12_LoopOf.j1 k ss a1 l2 l3 true else ((interlocklaw12_known.f k).bind fun t => interlocklaw12_LoopOf.j1 k ss a1 l2 l3 (!t))) true) : ∀ (d j : Nat), j + d = ss.length → Ev (fun k => interlocklaw12_LoopOf.l0 k ss a1 l2 l3 (sm ss j) (j : Int)) true
  | 0, j, hj => by
    obtain rfl : j = ss.length := by omega
    exact Ev.step (f := fun k => _) (fun k => by
      simp only [interlocklaw12_LoopOf.l0]
      rw [if_neg (by omega)]) cont
  | d + 1, j, hj => by
    have ih := lo_l0 ss a1 l2 l3 hl cont d (j + 1) (by omega)
    exact Ev.step (f := fun k => _) (fun k => by
      simp only [interlocklaw12_LoopOf.l0]
      rw [if_pos (show (j : Int) < (ss.length : Int) by omega), if_pos (show 0 ≤ (j : Int) by omega), show rd_L1 ss (j : Int) = ss.getD j [] by unfold rd_L1; rw [Int.toNat_natCast], up j (by omega)]
      rfl) ih
theorem LoopOf : Stmt.LoopOf := by
  intro ss a1 l2 l3 h0 h1 h2 h3
  have h0 : ss.length ≤ 140737488351232 ∧ ∀ x ∈ ss, x.length ≤ 140737488351232 ∧ _ := h0
  obtain ⟨b0, b1⟩ := bounds_u8 h1
  have hby : ∀ x ∈ l2, 0 ≤ x ∧ x ≤ 255 := fun x hx => by obtain ⟨q0, q1⟩ := bounds_u8 (h2.2 x hx); exact ⟨q0, by omega⟩
  obtain ⟨w1, w2⟩ := wf_rows h3
  refine Ev.rounds (r := true) ?_
  unfold interlocklaw12_LoopOf.f
  have hj1 : Ev (fun k => interlocklaw12_LoopOf.j1 k ss a1 l2 l3 true) true := Ev.step (f := fun k => _) (fun k => by
    simp only [interlocklaw12_LoopOf.j1]
    rw [if_pos trivial]) (Ev.bind known_ev (Ev.now _))
  refine lo_l0 ss a1 l2 l3 h0.1 ?_ ss.length 0 (Nat.zero_add _)
  by_cases hs : sm ss ss.length > 100
  · exact ev_pos hs hj1
  refine ev_neg hs (Ev.bind known_ev ?_)
  have hgs : ss.length ≤ 64 → Gok ss := fun hn => ⟨hn, fun i hi => by
    have := (sm_rows ss hn (fun q hq => by
      rw [List.getD_eq_getElem?_getD, List.getElem?_eq_getElem hq]
      exact (h0.2 _ (List.getElem_mem hq)).1) ss.length (Nat.le_refl _)).2.2 i hi
    omega⟩
  obtain ⟨g, g1, g2, g3, g4⟩ := graph_ev a1 l2 ⟨b0, by omega⟩ hby
  obtain ⟨n, th, n1, n3, t1, t2, t3⟩ := make_ok l3 w1 w2
  have ht : ∃ c, rd_L11 th 0 = c ∧ c.length ≤ 64 := by
    refine ⟨_, rfl, ?_⟩
    have hm : th.getD 0 [] ∈ th := by
      rw [List.getD_eq_getElem?_getD, List.getElem?_eq_getElem (by omega)]
      exact List.getElem_mem (by omega)
    have := (t2 _ hm).2
    show (th.getD (0 : Int).toNat []).length ≤ 64
    have e : (0 : Int).toNat = 0 := rfl
    rw [e]
    omega
  obtain ⟨c, c1, c2⟩ := ht
  obtain ⟨x, x1, x2, x3⟩ := succs_ev c c2
  obtain ⟨L1, p1, p2, p3⟩ := both_ev ss hgs
  obtain ⟨L2, q1, q2, q3⟩ := both_ev g (fun _ => graph_ok g3 g4)
  obtain ⟨L3, r1, r2, r3⟩ := both_ev x (fun hn => ⟨hn, fun i hi => by
    have := x3 (x.getD i []) (by rw [List.getD_eq_getElem?_getD, List.getElem?_eq_getElem hi]; exact List.getElem_mem hi)
    omega⟩)
  refine Ev.step (f := fun k => _) (fun k => by
    simp only [interlocklaw12_LoopOf.j1]
    rw [if_neg (by decide)]) ?_
  refine Ev.bind g1 (Ev.bind t3 (ev_pos (show 0 < (th.length : Int) by omega) ?_))
  refine Ev.bind (a := x) (by rw [c1]; exact x1) ?_
  exact Ev.bind p1 (Ev.bind p2 (Ev.bind p3 (ev_pos rfl (Ev.bind q1 (Ev.bind q2 (Ev.bind q3 (ev_pos rfl (Ev.bind r1 (Ev.bind r2 (Ev.bind r3 (Ev.now _)))))))))))
end Go.Proofs.YtbnkeddnibjncaaDoor.Pure
