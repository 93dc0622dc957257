import Derived.Test.YtbnkeddnibjncaaDoorGR
import Derived.Test.YtbnkeddnibjncaaDoorSLoopFree
namespace Go.Proofs.YtbnkeddnibjncaaDoor.Pure
set_option linter.unusedVariables false
open Go Go.RowKit Go.Proofs.YtbnkeddnibjncaaDoor.P Go.Proofs.YtbnkeddnibjncaaDoor.Opn Go.Proofs.YtbnkeddnibjncaaDoor.Th Go.Proofs.YtbnkeddnibjncaaDoorW.PrintWords Go.Proofs.YtbnkeddnibjncaaDoorW.PrintLast Go.Proofs.YtbnkeddnibjncaaDoorW.PrintMore
/-- Each way leads on. -/
def Fwd (ss : List (List Int)) : Prop := ∀ q, q < ss.length → ∀ x ∈ ss.getD q [], (q : Int) < x
theorem fwd_ra {ss : List (List Int)} (hf : Fwd ss) {x : Nat} (h : Rch ss x) : ∀ d, x < d → RA ss (· = d) x := by
  induction h with
  | zero h0 _ => exact fun d hd => .zero h0 (by omega)
  | @step i j _ e _ ih =>
    intro d hd
    have := hf i e.1 _ e.2.2
    exact .step (ih d (by omega)) e (by omega)
theorem fwd_none {ss : List (List Int)} (hf : Fwd ss) (h : Nat) : ¬ Head ss h := fun ⟨t, he, hd⟩ => by
  have := hf t he.1 _ he.2.2
  exact hd.2 (fwd_ra hf hd.1 h (by omega))
theorem fwd_loops {ss : List (List Int)} (hf : Fwd ss) : ∀ d h, loopsFrom ss d h = []
  | 0, _ => rfl
  | d + 1, h => by
    simp only [loopsFrom]
    rw [if_neg (fwd_none hf h), fwd_loops hf d (h + 1)]; rfl
structure FI (n i j : Nat) (ss : List (List Int)) : Prop where
  len : ss.length = n
  rows : ∀ q, (ss.getD q []).length ≤ 60
  done : ∀ q, q < i → ∀ x ∈ ss.getD q [], (q : Int) < x
  row : ∀ t, t < j → t < (ss.getD i []).length → (i : Int) < (ss.getD i []).getD t 0
theorem FI.on {n i j : Nat} {ss : List (List Int)} (h : FI n i j ss) (hj : (ss.getD i []).length ≤ j) : FI n (i + 1) 0 ss := by
  refine ⟨h.len, h.rows, fun q hq x hx => ?_, fun t ht => by omega⟩
  by_cases e : q = i
  · subst e
    obtain ⟨t, ht, rfl⟩ := List.mem_iff_getElem.1 hx
    have := h.row t (by omega) ht
    rwa [List.getD_eq_getElem?_getD (l := ss.getD q []), List.getElem?_eq_getElem ht] at this
  · exact h.done q (by omega) x hx
theorem FI.put {n i j : Nat} {ss : List (List Int)} (h : FI n i j ss) (hi : i < n) (hj : j < (ss.getD i []).length) (v : Int) (hv : (i : Int) < v) : FI n i (j + 1) (ss.set i ((ss.getD i []).set j v)) := by
  have hl := h.len
  have hg : ∀ q, (ss.set i ((ss.getD i []).set j v)).getD q [] = if i = q ∧ q < ss.length then (ss.getD i []).set j v else ss.getD q [] := fun q => getD_set ss i q _
  refine ⟨by rw [List.length_set]; exact hl, fun q => ?_, fun q hq x hx => ?_, fun t ht htl => ?_⟩
  · rw [hg]
    split
    · rw [List.length_set]; exact h.rows i
    · exact h.rows q
  · rw [hg, if_neg (by omega)] at hx
    exact h.done q hq x hx
  · rw [hg, if_pos ⟨rfl, by omega⟩] at htl ⊢
    rw [List.length_set] at htl
    rw [List.getD_eq_getElem?_getD, List.getElem?_set]
    by_cases e : j = t
    · subst e; rw [if_pos rfl, if_pos htl]; exact hv
    · rw [if_neg e, ← List.getD_eq_getElem?_getD]
      exact h.row t (by omega) htl
theorem FI.skip {n i j : Nat} {ss : List (List Int)} (h : FI n i j ss) (hv : (i : Int) < (ss.getD i []).getD j 0) : FI n i (j + 1) ss :=
  ⟨h.len, h.rows, h.done, fun t ht htl => by
    by_cases e : t = j
    · subst e; exact hv
    · exact h.row t (by omega) htl⟩
theorem free_l1 (n i : Nat) (hi : i < n) (hn : n ≤ 12) (cont : ∀ ss, FI n (i + 1) 0 ss → Ev (fun k => interlocklaw12_LoopFree.l0 k ss ((i + 1 : Nat) : Int)) true) : ∀ (d j : Nat) (ss : List (List Int)), FI n i j ss → 60 ≤ j + d → j ≤ 60 → Ev (fun k => interlocklaw12_LoopFree.l1 k ss (i : Int) (j : Int)) true
  | 0, j, ss, h, hd, hj => by
    have hl := h.len
    have hr := h.rows i
    refine Ev.step (f := fun k => _) (fun k => by
      simp only [interlocklaw12_LoopFree.l1]
      rw [(show rd_L1 ss (i : Int) = ss.getD i [] by unfold rd_L1; rw [Int.toNat_natCast]), if_pos (show 0 ≤ (i : Int) by omega), if_pos (show (i : Int) < (ss.length : Int) by omega), if_neg (by omega), up i (by omega)]) (cont ss (h.on (by omega)))
  | d + 1, j, ss, h, hd, hj => by
    have hl := h.len
    have hr := h.rows i
    by_cases hjl : j < (ss.getD i []).length
    · refine Ev.step (f := fun k => _) (fun k => by
        simp only [interlocklaw12_LoopFree.l1]
        rw [(show rd_L1 ss (i : Int) = ss.getD i [] by unfold rd_L1; rw [Int.toNat_natCast]), if_pos (show 0 ≤ (i : Int) by omega), if_pos (show (i : Int) < (ss.length : Int) by omega), if_pos (show (j : Int) < ((ss.getD i []).length : Int) by omega), if_pos (show 0 ≤ (j : Int) by omega), rd_nat, up i (by omega), up j (by omega), Int.toNat_natCast, Int.toNat_natCast]) ?_
      by_cases hv : (ss.getD i []).getD j 0 ≤ (i : Int)
      · exact ev_pos hv (free_l1 n i hi hn cont d (j + 1) _ (h.put hi hjl _ (by omega)) (by omega) (by omega))
      · exact ev_neg hv (free_l1 n i hi hn cont d (j + 1) _ (h.skip (by omega)) (by omega) (by omega))
    · refine Ev.step (f := fun k => _) (fun k => by
        simp only [interlocklaw12_LoopFree.l1]
        rw [(show rd_L1 ss (i : Int) = ss.getD i [] by unfold rd_L1; rw [Int.toNat_natCast]), if_pos (show 0 ≤ (i : Int) by omega), if_pos (show (i : Int) < (ss.length : Int) by omega), if_neg (by omega), up i (by omega)]) (cont ss (h.on (by omega)))
theorem free_l0 (n : Nat) (hn : n ≤ 12) : ∀ (d i : Nat) (ss : List (List Int)), i + d = n → FI n i 0 ss → Ev (fun k => interlocklaw12_LoopFree.l0 k ss (i : Int)) true
  | 0, i, ss, hi, h => by
    have hl := h.len
    have hf : Fwd ss := fun q hq x hx => h.done q (by omega) x hx
    have hof := of_ev (graph_ok (g := ss) (by omega) h.rows)
    rw [show OfN ss = [] from fwd_loops hf _ _] at hof
    refine Ev.step (f := fun k => _) (fun k => by
      simp only [interlocklaw12_LoopFree.l0]
      rw [if_neg (show ¬ (i : Int) < (ss.length : Int) by omega)]) ?_
    exact Ev.bind known_ev (ev_pos rfl (Ev.bind hof (Ev.now _)))
  | d + 1, i, ss, hi, h => by
    have hl := h.len
    refine Ev.step (f := fun k => _) (fun k => by
      simp only [interlocklaw12_LoopFree.l0]
      rw [if_pos (show (i : Int) < (ss.length : Int) by omega)]) ?_
    exact free_l1 n i (by omega) hn (fun ss' h' => free_l0 n hn d (i + 1) ss' (by omega) h') 60 0 ss h (by omega) (by omega)
theorem LoopFree : Stmt.LoopFree := by
  intro a0 l1 h0 h1
  obtain ⟨b0, b1⟩ := bounds_u8 h0
  have hby : ∀ x ∈ l1, 0 ≤ x ∧ x ≤ 255 := fun x hx => by obtain ⟨q0, q1⟩ := bounds_u8 (h1.2 x hx); exact ⟨q0, by omega⟩
  refine Ev.rounds (r := true) ?_
  unfold interlocklaw12_LoopFree.f
  obtain ⟨g, g1, g2, g3, g4⟩ := graph_ev a0 l1 ⟨b0, by omega⟩ hby
  exact Ev.bind g1 (free_l0 g.length g3 g.length 0 g (by omega) ⟨rfl, g4, fun q hq => by omega, fun t ht => by omega⟩)
end Go.Proofs.YtbnkeddnibjncaaDoor.Pure
