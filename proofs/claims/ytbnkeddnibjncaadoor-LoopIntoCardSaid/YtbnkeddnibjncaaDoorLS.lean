import Derived.Test.YtbnkeddnibjncaaDoorGR
namespace Go.Proofs.YtbnkeddnibjncaaDoor.Th
set_option linter.unusedVariables false
open Go Go.RowKit Go.Proofs.YtbnkeddnibjncaaDoor.P Go.Proofs.YtbnkeddnibjncaaDoor.Opn Go.Proofs.YtbnkeddnibjncaaDoorW.PrintWords Go.Proofs.YtbnkeddnibjncaaDoorW.PrintLast Go.Proofs.YtbnkeddnibjncaaDoorW.PrintMore
/-! What lies in the rows of loops. -/
def IsLoop (ss : List (List Int)) (L : S35) : Prop := ∃ a, Head ss a ∧ L = (⟨(a : Int), bodyL ss a⟩ : S35)
open Classical in
theorem bodyL_mem (ss : List (List Int)) (h : Nat) (hr : Rch ss h) (x : Int) : x ∈ bodyL ss h ↔ ∃ y : Nat, x = (y : Int) ∧ InB ss h y := by
  unfold bodyL
  rw [List.mem_map]
  constructor
  · rintro ⟨y, hy, rfl⟩
    exact ⟨y, rfl, of_decide_eq_true (List.mem_filter.1 hy).2⟩
  · rintro ⟨y, rfl, hy⟩
    exact ⟨y, List.mem_filter.2 ⟨List.mem_range.2 (hy.dom hr).1.lt, decide_eq_true hy⟩, rfl⟩
open Classical in
theorem bodyL_len (ss : List (List Int)) (h : Nat) : (bodyL ss h).length ≤ ss.length := by
  unfold bodyL
  rw [List.length_map]
  have := List.length_filter_le (fun x => decide (InB ss h x)) (List.range ss.length)
  rwa [List.length_range] at this
theorem IsLoop.len {ss : List (List Int)} {L : S35} (h : IsLoop ss L) : L.f1.length ≤ ss.length := by
  obtain ⟨a, _, rfl⟩ := h
  exact bodyL_len ss a
open Classical in
theorem loops_mem (ss : List (List Int)) : ∀ (d h : Nat) (M : S35), M ∈ loopsFrom ss d h → IsLoop ss M
  | 0, h, M, hM => by cases hM
  | d + 1, h, M, hM => by
    simp only [loopsFrom] at hM
    rcases List.mem_append.1 hM with hM | hM
    · split at hM
      · rename_i hh
        exact ⟨h, hh, List.mem_singleton.1 hM⟩
      · cases hM
    · exact loops_mem ss d (h + 1) M hM
open Classical in
theorem loops_len (ss : List (List Int)) : ∀ (d h : Nat), (loopsFrom ss d h).length ≤ d
  | 0, h => Nat.le_refl _
  | d + 1, h => by
    simp only [loopsFrom]
    rw [List.length_append]
    have := loops_len ss d (h + 1)
    split
    · simp only [List.length_singleton]; omega
    · simp only [List.length_nil]; omega
end Go.Proofs.YtbnkeddnibjncaaDoor.Th
