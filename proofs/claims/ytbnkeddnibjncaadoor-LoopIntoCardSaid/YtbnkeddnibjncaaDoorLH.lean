import Derived.Test.YtbnkeddnibjncaaDoorLS
namespace Go.Proofs.YtbnkeddnibjncaaDoor.Th
set_option linter.unusedVariables false
open Go Go.RowKit Go.Proofs.YtbnkeddnibjncaaDoor.P Go.Proofs.YtbnkeddnibjncaaDoor.Opn Go.Proofs.YtbnkeddnibjncaaDoorW.PrintWords Go.Proofs.YtbnkeddnibjncaaDoorW.PrintLast Go.Proofs.YtbnkeddnibjncaaDoorW.PrintMore
/-! Is a number there? -/
theorem has_l0 (l : List Int) (x : Int) (hl : l.length ≤ 1000000) : ∀ (d j : Nat), j + d = l.length → Ev (fun k => interlocklaw12_has.l0 k l x (j : Int)) (decide (x ∈ l.drop j))
  | 0, j, hj => by
    rw [List.drop_eq_nil_of_le (by omega)]
    exact Ev.step (f := fun _ => some false) (fun k => by simp only [interlocklaw12_has.l0]; rw [if_neg (by omega)]) (Ev.now _)
  | d + 1, j, hj => by
    have hlt : j < l.length := by omega
    have hd : l.drop j = l.getD j 0 :: l.drop (j + 1) := by rw [List.drop_eq_getElem_cons hlt, List.getD_eq_getElem?_getD, List.getElem?_eq_getElem hlt]; rfl
    rw [hd]
    by_cases he : l.getD j 0 = x
    · rw [decide_eq_true (by rw [he]; exact List.mem_cons_self)]
      exact Ev.step (f := fun _ => some true) (fun k => by simp only [interlocklaw12_has.l0]; rw [if_pos (by omega), if_pos (by omega), rd_nat, if_pos he]) (Ev.now _)
    · have ih := has_l0 l x hl d (j + 1) (by omega)
      rw [← up j (by omega)] at ih
      have e : decide (x ∈ l.getD j 0 :: l.drop (j + 1)) = decide (x ∈ l.drop (j + 1)) := by
        refine decide_eq_decide.2 ?_
        rw [List.mem_cons]
        exact ⟨fun c => c.elim (fun c => absurd c.symm he) id, .inr⟩
      rw [e]
      exact Ev.step (f := fun k => _) (fun k => by simp only [interlocklaw12_has.l0]; rw [if_pos (by omega), if_pos (by omega), rd_nat, if_neg he]) ih
theorem has_ev (l : List Int) (x : Int) (hl : l.length ≤ 1000000) : Ev (fun k => interlocklaw12_has.f k l x) (decide (x ∈ l)) := has_l0 l x hl l.length 0 (by omega)
end Go.Proofs.YtbnkeddnibjncaaDoor.Th
