import Derived.Test.YtfiemikganhgeaaFL
import Derived.OpenShut
namespace Go.Proofs.Ytfiemikganhgeaa.Th
set_option linter.unusedVariables false
open Go Go.RowKit Go.Proofs.Ytfiemikganhgeaa.P Go.Proofs.Ytfiemikganhgeaa.Opn Go.Proofs.YtfiemikganhgeaaW.PrintWords Go.Proofs.YtfiemikganhgeaaW.PrintLast Go.Proofs.YtfiemikganhgeaaW.PrintMore
/-! flow.Solve comes to the solution. -/
theorem index_ev (l : List Int) (x : Int) (hl : l.length ≤ 1000000) : ∀ (d j : Nat), j + d = l.length → ∃ r : Int, Ev (fun k => slices_Index_int_int.l0 k l x (l.length : Int) (j : Int)) r ∧ decide (r ≥ 0) = decide (x ∈ l.drop j)
  | 0, j, hj => ⟨-1, Ev.step (fun k => by simp only [slices_Index_int_int.l0]; rw [if_neg (by omega)]) (Ev.now _), by rw [List.drop_eq_nil_of_le (by omega)]; rfl⟩
  | d + 1, j, hj => by
    have hlt : j < l.length := by omega
    have hd : l.drop j = l.getD j 0 :: l.drop (j + 1) := by rw [List.drop_eq_getElem_cons hlt, List.getD_eq_getElem?_getD, List.getElem?_eq_getElem hlt]; rfl
    by_cases he : x = l.getD j 0
    · refine ⟨(j : Int), Ev.step (f := fun _ => some (j : Int)) (fun k => by simp only [slices_Index_int_int.l0]; rw [if_pos (by omega), if_pos (by omega), if_pos (by omega), rd_nat, if_pos he]) (Ev.now _), ?_⟩
      rw [hd, he, decide_eq_true (by omega), decide_eq_true List.mem_cons_self]
    · obtain ⟨r, h1, h2⟩ := index_ev l x hl d (j + 1) (by omega)
      rw [← up j (by omega)] at h1
      refine ⟨r, Ev.step (fun k => by simp only [slices_Index_int_int.l0]; rw [if_pos (by omega), if_pos (by omega), if_pos (by omega), rd_nat, if_neg he]) h1, ?_⟩
      rw [h2, hd]
      simp only [List.mem_cons, he, false_or]
theorem contains_ev (l : List Int) (x : Int) (hl : l.length ≤ 1000000) : Ev (fun k => slices_Contains_int_int.f k l x) (decide (x ∈ l)) := by
  obtain ⟨r, h1, h2⟩ := index_ev l x hl l.length 0 (by omega)
  unfold slices_Contains_int_int.f slices_Index_int_int.f
  refine Ev.bind h1 ?_
  rw [show decide (x ∈ l) = decide (r ≥ 0) from h2.symm]
  exact Ev.now _
theorem ev_all {α : Type} {f : Nat → Nat → Option α} {g : Nat → α} : ∀ (n : Nat), (∀ i, i < n → Ev (f i) (g i)) → ∃ K, ∀ k, K ≤ k → ∀ i, i < n → f i k = some (g i)
  | 0, _ => ⟨0, fun _ _ i hi => by omega⟩
  | n + 1, h => by
    obtain ⟨K1, h1⟩ := ev_all n (fun i hi => h i (by omega))
    obtain ⟨K2, h2⟩ := h n (by omega)
    refine ⟨max K1 K2, fun k hk i hi => ?_⟩
    have ha : K1 ≤ max K1 K2 := Nat.le_max_left _ _
    have hb : K2 ≤ max K1 K2 := Nat.le_max_right _ _
    by_cases e : i = n
    · subst e; exact h2 k (by omega)
    · exact h1 k (by omega) i (by omega)
theorem edge_ev (back : Bool) (ss : List (List Int)) (hl : ∀ i, i < ss.length → (ss.getD i []).length ≤ 900000) : ∃ K, ∀ k, K ≤ k → ∀ i, i < ss.length → edgO k back ss (i : Int) = some (edB back ss i) := by
  refine ev_all (f := fun i k => edgO k back ss (i : Int)) ss.length (fun i hi => ?_)
  unfold edgO edB
  cases back
  · refine Ev.congr (fun k => ?_) (Ev.now ((i : Nat) == 0))
    show some ((i : Int) == 0) = some (i == 0)
    congr 1
    rw [Bool.eq_iff_iff]; simp
  · have := contains_ev (ss.getD i []) (ss.length : Int) (by have := hl i hi; omega)
    rw [if_pos rfl]
    refine Ev.congr (fun k => ?_) this
    rw [if_pos rfl, show rd_L1 ss (i : Int) = ss.getD i [] by unfold rd_L1; rw [Int.toNat_natCast]]
theorem inside_row (ss : List (List Int)) (i : Nat) (hi : i < ss.length) : (insideI ss).getD i [] = (ss.getD i []).filter fun x => !outB ss.length x := by
  unfold insideI
  rw [List.getD_eq_getElem?_getD, List.getElem?_map, List.getD_eq_getElem?_getD, List.getElem?_eq_getElem hi]; rfl
theorem inside_mem (ss : List (List Int)) (i : Nat) (hi : i < ss.length) (x : Int) : x ∈ (insideI ss).getD i [] ↔ x ∈ ss.getD i [] ∧ 0 ≤ x ∧ x < (ss.length : Int) := by
  rw [inside_row ss i hi, List.mem_filter]
  unfold outB
  simp
theorem inside_len (ss : List (List Int)) (i : Nat) (hi : i < ss.length) : ((insideI ss).getD i []).length ≤ (ss.getD i []).length := by
  rw [inside_row ss i hi]; exact List.length_filter_le _ _
def frR (ss : List (List Int)) (back : Bool) : List (List Int) := if back = true then insideI ss else preds ss
def ttR (ss : List (List Int)) (back : Bool) : List (List Int) := if back = true then preds ss else insideI ss
theorem rows_in (ss : List (List Int)) (back : Bool) : (∀ i, i < ss.length → ∀ x ∈ (frR ss back).getD i [], 0 ≤ x ∧ x < (ss.length : Int)) ∧ (∀ i, i < ss.length → ∀ x ∈ (ttR ss back).getD i [], 0 ≤ x ∧ x < (ss.length : Int)) := by
  have h1 : ∀ i, i < ss.length → ∀ x ∈ (insideI ss).getD i [], 0 ≤ x ∧ x < (ss.length : Int) := fun i hi x hx => ((inside_mem ss i hi x).1 hx).2
  have h2 : ∀ i, i < ss.length → ∀ x ∈ (preds ss).getD i [], 0 ≤ x ∧ x < (ss.length : Int) := fun i hi x hx => by
    obtain ⟨m, hm, rfl, _⟩ := (preds_mem ss i x).1 hx
    omega
  cases back
  · exact ⟨h2, h1⟩
  · exact ⟨h1, h2⟩
theorem rows_hear (ss : List (List Int)) (back : Bool) : ∀ i j, i < ss.length → j < ss.length → i ∈ ((frR ss back).getD j []).map Int.toNat → j ∈ ((ttR ss back).getD i []).map Int.toNat := by
  intro i j hi hj h
  obtain ⟨x, hx, rfl⟩ := List.mem_map.1 h
  cases back
  · obtain ⟨m, hm, rfl, h3, _⟩ := (preds_mem ss j x).1 hx
    exact List.mem_map.2 ⟨(j : Int), (inside_mem ss _ hi _).2 ⟨h3, by omega, by omega⟩, Int.toNat_natCast _⟩
  · obtain ⟨h1, h2, h3⟩ := (inside_mem ss j hj x).1 hx
    refine List.mem_map.2 ⟨(j : Int), (preds_mem ss _ _).2 ⟨j, hj, rfl, ?_, hi⟩, Int.toNat_natCast _⟩
    rw [show ((x.toNat : Nat) : Int) = x by omega]
    exact h1
theorem all_wq (n : Nat) : WQok n (List.replicate n true, List.range n) := by
  refine ⟨List.length_replicate, fun i hi => List.mem_range.1 hi, List.nodup_range, fun i hi => ?_⟩
  show (List.replicate n true).getD i false = true ↔ _
  rw [List.getD_eq_getElem?_getD, List.getElem?_replicate, if_pos hi]
  simp [hi]
/-- The system of a problem. -/
def sysP (ss : List (List Int)) (gs ks : List Int) (st : Int) (m back : Bool) : Sys := sysF ss (frR ss back) gs ks st m back
theorem sysP_ok {ss : List (List Int)} {gs ks : List Int} {st : Int} {m back : Bool} (hg : W64 gs) (hst : 0 ≤ st ∧ st < 18446744073709551616) : (sysP ss gs ks st m back).Ok := sysF_ok hg hst (rows_in ss back).1
def outcome (back : Bool) (a b : List Nat) : List Int × List Int := if back = true then (IntL b, IntL a) else (IntL a, IntL b)
theorem flow_ev (ss : List (List Int)) (gs ks : List Int) (st : Int) (m back : Bool) (hn : ss.length ≤ 64) (hl : ∀ i, i < ss.length → (ss.getD i []).length ≤ 900000) (hg : W64 gs) (hk : W64 ks) (hst : 0 ≤ st ∧ st < 18446744073709551616) :
    ∃ a b : List Nat, a.length = ss.length ∧ b.length = ss.length ∧ Sol (sysP ss gs ks st m back) (fn a) (fn b) ∧ Ev (fun k => flow_Solve.f k ss gs ks st m back) (outcome back a b) := by
  obtain ⟨hfr, htt⟩ := rows_in ss back
  have hear := rows_hear ss back
  have hS := sysP_ok (ss := ss) (ks := ks) (m := m) (back := back) hg hst
  have hlt : ∀ i, i < ss.length → ((ttR ss back).getD i []).length ≤ 900000 := fun i hi => by
    unfold ttR
    cases back
    · have := inside_len ss i hi; have := hl i hi; rw [if_neg (by decide)]; omega
    · have := preds_row ss i; rw [if_pos rfl]; omega
  have hI := begin1 (sysP ss gs ks st m back) hS (all_wq ss.length) (fun i hi => ((all_wq ss.length).iff i hi).2 (List.mem_range.2 hi))
  obtain ⟨a, b, h1, h2, h3, h4⟩ := solve_ok hS (tos := fun i => ((ttR ss back).getD i []).map Int.toNat) (fun i hi k hk => by
    obtain ⟨x, hx, rfl⟩ := List.mem_map.1 hk
    have := htt i hi x hx
    show x.toNat < ss.length
    omega) hear _ _ _ _ hI (Nat.le_refl _)
  refine ⟨a, b, h2, h3, h4, ?_⟩
  obtain ⟨K, hK⟩ := edge_ev back ss hl
  unfold flow_Solve.f
  refine ev_pos hn (ev_pos ?_ ?_)
  · refine List.all_eq_true.2 (fun l hm => decide_eq_true ?_)
    obtain ⟨j, hj, rfl⟩ := List.mem_iff_getElem.1 hm
    have := hl j hj
    rw [List.getD_eq_getElem?_getD, List.getElem?_eq_getElem hj] at this
    simpa using Nat.le_trans this (by omega)
  refine Ev.bind (preds_ev ss hn (fun j hj => by have := hl j hj; omega)) (ev_pos (preds_len ss) ?_)
  have hrep : List.replicate ss.length (alI m) = IntL (List.replicate ss.length (AL m)) := by unfold IntL; rw [List.map_replicate, alI_nat]
  have hup : upTo ss.length = IntL (List.range ss.length) := rfl
  rw [hrep, hup]
  refine Ev.bind (a := (IntL a, IntL b)) ⟨max K (remL (sysP ss gs ks st m back).must (List.replicate (sysP ss gs ks st m back).n (AL (sysP ss gs ks st m back).must)) * ((sysP ss gs ks st m back).n + 1) + (List.replicate ss.length true, List.range ss.length).2.length + 1), fun k hk' => ?_⟩ ?_
  · have ha : K ≤ k := Nat.le_trans (Nat.le_max_left _ _) hk'
    have hb := Nat.le_trans (Nat.le_max_right _ _) hk'
    exact solve_link hg hk hst hfr htt hn hlt hear k (hK k ha) k _ _ (List.replicate ss.length true, List.range ss.length) a b hI (h1 k (by omega))
  · exact Ev.congr (fun _ => rfl) (Ev.now _)
theorem w64_of {l : List Int} (h : l.length ≤ 9223372036854775807 ∧ ∀ x ∈ l, (Lit.int .u64 x).wf = true) : W64 l := fun x hx => by
  obtain ⟨h0, h1⟩ := bounds_u64 (h.2 x hx)
  exact ⟨h0, by omega⟩
end Go.Proofs.Ytfiemikganhgeaa.Th
