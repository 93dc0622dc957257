import Derived.OpenShut
import Derived.Test.YtbnkeddnibjncaaDoorPx1
import Derived.Test.YtbnkeddnibjncaaDoorPx7
import Derived.Test.YtbnkeddnibjncaaDoorPx6
import Derived.Test.YtbnkeddnibjncaaDoorOF
namespace Go.Proofs.YtbnkeddnibjncaaDoor.Th
set_option linter.unusedVariables false
open Go Go.RowKit Go.Proofs.YtbnkeddnibjncaaDoor.P Go.Proofs.YtbnkeddnibjncaaDoor.Opn Go.Proofs.YtbnkeddnibjncaaDoorW.PrintWords Go.Proofs.YtbnkeddnibjncaaDoorW.PrintLast Go.Proofs.YtbnkeddnibjncaaDoorW.PrintMore
/-! The graph that bytes name. -/
theorem graph_l0 (c : List Int) (hb : ∀ x ∈ c, 0 ≤ x ∧ x ≤ 255) (n : Nat) (h1 : 1 ≤ n) (h2 : n ≤ 12) : ∀ (d j : Nat) (ps : List (List Int)), 50 ≤ j + 2 * d → j ≤ 51 → ps.length = n → (∀ i, (ps.getD i []).length ≤ j) →
    ∃ g : List (List Int), Ev (fun k => interlocklaw10_Graph.l0 k c (n : Int) ps (j : Int)) g ∧ g.length = n ∧ ∀ i, (g.getD i []).length ≤ 60
  | 0, j, ps, hj, hj2, hl, hr => by
    refine ⟨ps, ?_, hl, fun i => by have := hr i; omega⟩
    have hw : wrap64 ((j : Int) + 1) = (j : Int) + 1 := w64 (by omega) (by omega)
    refine Ev.step (f := fun _ => some ps) (fun k => ?_) (Ev.now _)
    simp only [interlocklaw10_Graph.l0]
    rw [hw]
    by_cases h : (j : Int) + 1 < (c.length : Int)
    · rw [if_pos h, if_neg (by omega)]
    · rw [if_neg h]
  | d + 1, j, ps, hj, hj2, hl, hr => by
    have hw : wrap64 ((j : Int) + 1) = ((j + 1 : Nat) : Int) := by rw [w64 (by omega) (by omega)]; omega
    have hw2 : wrap64 ((j : Int) + 2) = ((j + 2 : Nat) : Int) := by rw [w64 (by omega) (by omega)]; omega
    have hw3 : wrap64 ((n : Int) + 2) = (n : Int) + 2 := w64 (by omega) (by omega)
    by_cases h : ((j + 1 : Nat) : Int) < (c.length : Int)
    · by_cases h5 : (j : Int) < 50
      · have hx : 0 ≤ rd c (j : Int) ∧ rd c (j : Int) ≤ 255 := by
          rw [rd_nat, List.getD_eq_getElem?_getD, List.getElem?_eq_getElem (by omega)]
          exact hb _ (List.getElem_mem (by omega))
        have hwx : wrap64 (rd c (j : Int)) = rd c (j : Int) := w64 (by omega) (by omega)
        have ht0 : 0 ≤ Int.tmod (rd c (j : Int)) (n : Int) := Int.tmod_nonneg _ hx.1
        have ht1 : Int.tmod (rd c (j : Int)) (n : Int) < (n : Int) := Int.tmod_lt_of_pos _ (by omega)
        obtain ⟨v, hv⟩ : ∃ v, v = wrap64 ((wrap64 ((Int.tmod (wrap64 (rd c ((j + 1 : Nat) : Int))) ((n : Int) + 2)) - 1)) + ((Int.tdiv (rd c (j : Int)) 240) % 256)) := ⟨_, rfl⟩
        obtain ⟨t, ht⟩ : ∃ t, t = Int.tmod (rd c (j : Int)) (n : Int) := ⟨_, rfl⟩
        rw [← ht] at ht0 ht1
        have hrow : rd_L1 ps t = ps.getD t.toNat [] := rfl
        have hlen := hr t.toNat
        obtain ⟨g, g1, g2, g3⟩ := graph_l0 c hb n h1 h2 d (j + 2) (ps.set t.toNat (ps.getD t.toNat [] ++ [v])) (by omega) (by omega) (by rw [List.length_set]; exact hl) (fun i => by
          rw [getD_set]
          split
          · rw [List.length_append, List.length_singleton]; omega
          · have := hr i; omega)
        refine ⟨g, Ev.step (fun k => ?_) g1, g2, g3⟩
        simp only [interlocklaw10_Graph.l0]
        rw [hw, hw2, hw3, hwx, ← ht]
        rw [if_pos h, if_pos h5, if_pos (by omega), if_pos (by omega), if_neg (by omega), if_pos ht0, if_pos (by omega), if_pos (by omega), if_neg (by omega), hrow, if_pos (by omega), ← hv]
      · refine ⟨ps, ?_, hl, fun i => by have := hr i; omega⟩
        refine Ev.step (f := fun _ => some ps) (fun k => ?_) (Ev.now _)
        simp only [interlocklaw10_Graph.l0]
        rw [hw, if_pos h, if_neg h5]
    · refine ⟨ps, ?_, hl, fun i => by have := hr i; omega⟩
      refine Ev.step (f := fun _ => some ps) (fun k => ?_) (Ev.now _)
      simp only [interlocklaw10_Graph.l0]
      rw [hw, if_neg h]
theorem graph_ev (a : Int) (c : List Int) (ha : 0 ≤ a ∧ a ≤ 255) (hb : ∀ x ∈ c, 0 ≤ x ∧ x ≤ 255) : ∃ g : List (List Int), Ev (fun k => interlocklaw10_Graph.f k a c) g ∧ 1 ≤ g.length ∧ g.length ≤ 12 ∧ ∀ i, (g.getD i []).length ≤ 60 := by
  have ht0 : 0 ≤ Int.tmod a 12 := Int.tmod_nonneg _ ha.1
  have ht1 : Int.tmod a 12 < 12 := Int.tmod_lt_of_pos _ (by omega)
  have hw : wrap64 (Int.tmod a 12) = Int.tmod a 12 := w64 (by omega) (by omega)
  have hw2 : wrap64 (1 + Int.tmod a 12) = 1 + Int.tmod a 12 := w64 (by omega) (by omega)
  obtain ⟨n, hn⟩ : ∃ n : Nat, (n : Int) = 1 + Int.tmod a 12 := ⟨(1 + Int.tmod a 12).toNat, by omega⟩
  have h0 : ∀ i, ((List.replicate n ([] : List Int)).getD i []).length ≤ 0 := fun i => by
    rw [List.getD_eq_getElem?_getD, List.getElem?_replicate]; split <;> exact Nat.le_refl _
  obtain ⟨g, g1, g2, g3⟩ := graph_l0 c hb n (by omega) (by omega) 25 0 (List.replicate n []) (by omega) (by omega) List.length_replicate h0
  refine ⟨g, ?_, by omega, by omega, g3⟩
  unfold interlocklaw10_Graph.f
  rw [hw, hw2, ← hn]
  exact ev_pos (by omega) (ev_pos (by rw [Int.toNat_natCast]; omega) (by rw [Int.toNat_natCast]; exact g1))
theorem known_ev : Ev (fun k => interlocklaw12_known.f k) true := Ev.of interlocklaw12_known.mono (k := 60) (by kernel_rfl)
theorem graph_ok {g : List (List Int)} (h : g.length ≤ 12) (k : ∀ i, (g.getD i []).length ≤ 60) : Gok g := ⟨by omega, fun i _ => by have := k i; omega⟩
end Go.Proofs.YtbnkeddnibjncaaDoor.Th
