import Derived.Test.YtpmhkfpmadcneaaPx6
import Derived.Test.YtpmhkfpmadcneaaPx2
namespace Go.Proofs.Ytpmhkfpmadcneaa.Th
open Go Go.RowKit Go.Proofs.Ytpmhkfpmadcneaa.P Go.Proofs.YtpmhkfpmadcneaaW.PrintWords Go.Proofs.YtpmhkfpmadcneaaW.PrintLast Go.Proofs.YtpmhkfpmadcneaaW.PrintMore

theorem w64 {x : Int} (h0 : -9223372036854775808 ≤ x) (h1 : x ≤ 9223372036854775807) : wrap64 x = x := by unfold wrap64; omega
theorem rdOf_nat (l : List Bool) (i : Nat) : rdOf false l (i : Int) = l.getD i false := by simp [rdOf]
theorem getD_set (l : List Bool) (a j : Nat) (v : Bool) : (l.set a v).getD j false = if a = j ∧ j < l.length then v else l.getD j false := by
  simp only [List.getD_eq_getElem?_getD, List.getElem?_set]
  by_cases h : a = j
  · subst h
    by_cases h2 : a < l.length
    · simp [h2]
    · simp [h2]
  · simp [h]

/-! The first true place. -/
theorem index_ev (l : List Bool) (hl : l.length ≤ 4611686018427387904) : ∀ (d i : Nat), i + d = l.length →
    ∃ r : Int, Ev (fun k => slices_Index_bool_bool.l0 k l true l.length i) r ∧
      ((r = -1 ∧ ∀ j, i ≤ j → j < l.length → l.getD j false = false) ∨ ∃ m : Nat, r = m ∧ i ≤ m ∧ m < l.length ∧ l.getD m false = true ∧ ∀ j, i ≤ j → j < m → l.getD j false = false) := by
  intro d
  induction d with
  | zero =>
    intro i hi
    exact ⟨-1, Ev.step (fun k => by simp only [slices_Index_bool_bool.l0]; rw [if_neg (by omega)]) (Ev.now _), .inl ⟨rfl, fun j h1 h2 => by omega⟩⟩
  | succ d ih =>
    intro i hi
    cases hb : l.getD i false with
    | true =>
      refine ⟨i, Ev.step (fun k => by simp only [slices_Index_bool_bool.l0]; rw [if_pos (by omega), if_pos (by omega), if_pos (by omega), rdOf_nat, hb, if_pos (by rfl)]) (Ev.now _), .inr ⟨i, rfl, Nat.le_refl _, by omega, hb, fun j h1 h2 => by omega⟩⟩
    | false =>
      obtain ⟨r, h1, h2⟩ := ih (i + 1) (by omega)
      refine ⟨r, Ev.step (f := fun k => slices_Index_bool_bool.l0 k l true l.length ((i + 1 : Nat) : Int)) (fun k => by simp only [slices_Index_bool_bool.l0]; rw [if_pos (by omega), if_pos (by omega), if_pos (by omega), rdOf_nat, hb, if_neg (by decide), w64 (by omega) (by omega)]; rfl) h1, ?_⟩
      rcases h2 with ⟨e, h3⟩ | ⟨m, e, h3, h4, h5, h6⟩
      · exact .inl ⟨e, fun j h7 h8 => by
          by_cases e2 : j = i
          · rw [e2]; exact hb
          · exact h3 j (by omega) h8⟩
      · exact .inr ⟨m, e, by omega, h4, h5, fun j h7 h8 => by
          by_cases e2 : j = i
          · rw [e2]; exact hb
          · exact h6 j (by omega) h8⟩
theorem index_ev' (l : List Bool) (hl : l.length ≤ 4611686018427387904) :
    ∃ r : Int, Ev (fun k => slices_Index_bool_bool.f k l true) r ∧
      ((r = -1 ∧ ∀ j, j < l.length → l.getD j false = false) ∨ ∃ m : Nat, r = m ∧ m < l.length ∧ l.getD m false = true ∧ ∀ j, j < m → l.getD j false = false) := by
  obtain ⟨r, h1, h2⟩ := index_ev l hl l.length 0 (by omega)
  refine ⟨r, h1, ?_⟩
  rcases h2 with ⟨e, h3⟩ | ⟨m, e, _, h4, h5, h6⟩
  · exact .inl ⟨e, fun j h => h3 j (Nat.zero_le _) h⟩
  · exact .inr ⟨m, e, h4, h5, fun j h => h6 j (Nat.zero_le _) h⟩

/-! A list turned round. -/
theorem rev_ev (l : List Bool) (hl : l.length ≤ 4611686018427387904) : ∀ (d i : Nat) (cur : List Bool), l.length ≤ 2 * i + d → i ≤ l.length → cur.length = l.length →
    (∀ j, j < l.length → cur.getD j false = if j < i ∨ l.length - i ≤ j then l.getD (l.length - 1 - j) false else l.getD j false) →
    Ev (fun k => slices_Reverse_bool_bool.l0 k cur i ((l.length : Int) - 1 - i)) l.reverse := by
  intro d
  induction d with
  | zero =>
    intro i cur h1 h0 h2 h3
    refine Ev.step (fun k => by simp only [slices_Reverse_bool_bool.l0]; rw [if_neg (by omega)]) ?_
    have : cur = l.reverse := by
      apply List.ext_getElem (by simp [h2])
      intro j ha hb
      have := h3 j (by omega)
      rw [if_pos (by omega), List.getD_eq_getElem?_getD, List.getElem?_eq_getElem ha, List.getD_eq_getElem?_getD, List.getElem?_eq_getElem (by omega)] at this
      simp only [Option.getD_some] at this
      rw [this, List.getElem_reverse]
    rw [this]
    exact Ev.now _
  | succ d ih =>
    intro i cur h1 h0 h2 h3
    by_cases hlt : (i : Int) < (l.length : Int) - 1 - i
    · refine Ev.step (f := fun k => slices_Reverse_bool_bool.l0 k ((cur.set i (cur.getD (l.length - 1 - i) false)).set (l.length - 1 - i) (cur.getD i false)) ((i + 1 : Nat) : Int) ((l.length : Int) - 1 - ((i + 1 : Nat) : Int))) (fun k => ?_) (ih (i + 1) _ (by omega) (by omega) (by simp [h2]) ?_)
      · have e : (l.length : Int) - 1 - i = ((l.length - 1 - i : Nat) : Int) := by omega
        simp only [slices_Reverse_bool_bool.l0]
        rw [if_pos hlt, if_pos (by omega), if_pos (by omega), if_pos (by omega), if_pos (by omega), w64 (by omega) (by omega), w64 (by omega) (by omega), e, rdOf_nat, rdOf_nat]
        simp only [Int.toNat_natCast]
        have e2 : ((l.length - 1 - i : Nat) : Int) - 1 = (l.length : Int) - 1 - ((i + 1 : Nat) : Int) := by omega
        rw [e2]; rfl
      · intro j hj
        rw [getD_set, getD_set, h3 _ (by omega), h3 i (by omega), List.length_set]
        by_cases e1 : l.length - 1 - i = j
        · rw [if_pos ⟨e1, by omega⟩, if_neg (by omega), if_pos (by omega)]
          congr 1; omega
        · rw [if_neg (by omega)]
          by_cases e2 : i = j
          · rw [if_pos ⟨e2, by omega⟩, if_neg (by omega), if_pos (by omega), e2]
          · rw [if_neg (by omega), h3 j hj]
            by_cases e3 : j < i ∨ l.length - i ≤ j
            · rw [if_pos e3, if_pos (by omega)]
            · rw [if_neg e3, if_neg (by omega)]
    · refine Ev.step (fun k => by simp only [slices_Reverse_bool_bool.l0]; rw [if_neg hlt]) ?_
      have : cur = l.reverse := by
        apply List.ext_getElem (by simp [h2])
        intro j ha hb
        have := h3 j (by omega)
        rw [List.getD_eq_getElem?_getD, List.getElem?_eq_getElem ha] at this
        simp only [Option.getD_some] at this
        rw [this, List.getElem_reverse]
        by_cases e3 : j < i ∨ l.length - i ≤ j
        · rw [if_pos e3, List.getD_eq_getElem?_getD, List.getElem?_eq_getElem (by omega)]; rfl
        · rw [if_neg e3, List.getD_eq_getElem?_getD, List.getElem?_eq_getElem (by omega)]
          simp only [Option.getD_some]
          congr 1; omega
      rw [this]
      exact Ev.now _
theorem rev_ev' (l : List Bool) (hl : l.length ≤ 4611686018427387904) : Ev (fun k => slices_Reverse_bool_bool.f k l) l.reverse := by
  have h := rev_ev l hl l.length 0 l (by omega) (by omega) rfl (fun j hj => by rw [if_neg (by omega)])
  refine Ev.congr (fun k => ?_) h
  show slices_Reverse_bool_bool.l0 k l 0 (wrap64 ((l.length : Int) - 1)) = _
  rw [w64 (by omega) (by omega)]; simp
end Go.Proofs.Ytpmhkfpmadcneaa.Th
