import Derived.Test.YtbnkeddnibjncaaDoorRD
import Derived.Test.YtbnkeddnibjncaaDoorLH
namespace Go.Proofs.YtbnkeddnibjncaaDoor.Th
set_option linter.unusedVariables false
set_option linter.unusedSectionVars false
open Go Go.RowKit Go.Proofs.YtbnkeddnibjncaaDoor.P Go.Proofs.YtbnkeddnibjncaaDoor.Opn Go.Proofs.YtbnkeddnibjncaaDoorW.PrintWords Go.Proofs.YtbnkeddnibjncaaDoorW.PrintLast Go.Proofs.YtbnkeddnibjncaaDoorW.PrintMore
/-! The document's Preds; how rows of loops rise. -/
theorem rhas_l0 (l : List Int) (x : Int) (hl : l.length ≤ 1000000) : ∀ (d j : Nat), j + d = l.length → Ev (fun k => interlockref10_has.l0 k l x (j : Int)) (decide (x ∈ l.drop j))
  | 0, j, hj => by
    rw [List.drop_eq_nil_of_le (by omega)]
    exact Ev.step (f := fun _ => some false) (fun k => by simp only [interlockref10_has.l0]; rw [if_neg (by omega)]) (Ev.now _)
  | d + 1, j, hj => by
    have hlt : j < l.length := by omega
    have hd : l.drop j = l.getD j 0 :: l.drop (j + 1) := by rw [List.drop_eq_getElem_cons hlt, List.getD_eq_getElem?_getD, List.getElem?_eq_getElem hlt]; rfl
    rw [hd]
    by_cases he : l.getD j 0 = x
    · rw [decide_eq_true (by rw [he]; exact List.mem_cons_self)]
      exact Ev.step (f := fun _ => some true) (fun k => by simp only [interlockref10_has.l0]; rw [if_pos (by omega), if_pos (by omega), rd_nat, if_pos he]) (Ev.now _)
    · have ih := rhas_l0 l x hl d (j + 1) (by omega)
      rw [← up j (by omega)] at ih
      have e : decide (x ∈ l.getD j 0 :: l.drop (j + 1)) = decide (x ∈ l.drop (j + 1)) := by
        refine decide_eq_decide.2 ?_
        rw [List.mem_cons]
        exact ⟨fun c => c.elim (fun c => absurd c.symm he) id, .inr⟩
      rw [e]
      exact Ev.step (f := fun k => _) (fun k => by simp only [interlockref10_has.l0]; rw [if_pos (by omega), if_pos (by omega), rd_nat, if_neg he]) ih
theorem rnum_ev (l : List Int) (x : Int) (hl : l.length ≤ 1000000) : Ev (fun k => interlockref10_has.f k l x) (decide (x ∈ l)) := rhas_l0 l x hl l.length 0 (by omega)
def PrOk (ss : List (List Int)) (i : Nat) (l : List Int) : Prop := l.length ≤ ss.length ∧ ∀ x, x ∈ l ↔ ∃ p : Nat, x = (p : Int) ∧ p < ss.length ∧ (i : Int) ∈ ss.getD p []
section
variable {ss : List (List Int)} (hg : Gok ss)
include hg in
theorem rpreds_l1 (i : Nat) (out : List (List Int)) (hout : out.length = i) (hi : i < ss.length) (cont : ∀ l, PrOk ss i l → ∃ r : List (List Int), Ev (fun k => interlockref10_Preds.l0 k ss (out ++ [l]) ((i + 1 : Nat) : Int)) r ∧ r.length = ss.length ∧ ∀ q, q < ss.length → PrOk ss q (r.getD q [])) : ∀ (d j : Nat) (acc : List Int), j + d = ss.length → acc.length ≤ j → (∀ x, x ∈ acc ↔ ∃ p : Nat, x = (p : Int) ∧ p < j ∧ (i : Int) ∈ ss.getD p []) →
    ∃ r : List (List Int), Ev (fun k => interlockref10_Preds.l1 k ss out (i : Int) acc (j : Int)) r ∧ r.length = ss.length ∧ ∀ q, q < ss.length → PrOk ss q (r.getD q [])
  | 0, j, acc, hj, ha, hm => by
    have hn := hg.n64
    obtain rfl : j = ss.length := by omega
    obtain ⟨r, r1, r2⟩ := cont acc ⟨ha, hm⟩
    exact ⟨r, Ev.step (f := fun k => _) (fun k => by
      simp only [interlockref10_Preds.l1]
      rw [if_neg (by omega), if_pos (show out.length < 5864062014805 by omega), up i (by omega)]) r1, r2⟩
  | d + 1, j, acc, hj, ha, hm => by
    have hn := hg.n64
    have hjl : j < ss.length := by omega
    have hrow := hg.rows j hjl
    have hb := rnum_ev (ss.getD j []) (i : Int) (by omega)
    by_cases hc : (i : Int) ∈ ss.getD j []
    · obtain ⟨r, r1, r2⟩ := rpreds_l1 i out hout hi cont d (j + 1) (acc ++ [(j : Int)]) (by omega) (by rw [List.length_append, List.length_singleton]; omega) (fun x => by
        rw [List.mem_append, List.mem_singleton, hm x]
        constructor
        · rintro (⟨p, a, b, c⟩ | a)
          · exact ⟨p, a, by omega, c⟩
          · exact ⟨j, a, by omega, hc⟩
        · rintro ⟨p, a, b, c⟩
          by_cases e : p = j
          · rw [e] at a; exact .inr a
          · exact .inl ⟨p, a, by omega, c⟩)
      rw [decide_eq_true hc] at hb
      exact ⟨r, Ev.step (f := fun k => _) (fun k => by
        simp only [interlockref10_Preds.l1]
        rw [if_pos (show (j : Int) < (ss.length : Int) by omega), if_pos (show 0 ≤ (j : Int) by omega), show rd_L1 ss (j : Int) = ss.getD j [] by unfold rd_L1; rw [Int.toNat_natCast], if_pos (show acc.length < 17592186044416 by omega), up j (by omega)]) (Ev.bind hb (ev_pos rfl r1)), r2⟩
    · obtain ⟨r, r1, r2⟩ := rpreds_l1 i out hout hi cont d (j + 1) acc (by omega) (by omega) (fun x => by
        rw [hm x]
        constructor
        · rintro ⟨p, a, b, c⟩
          exact ⟨p, a, by omega, c⟩
        · rintro ⟨p, a, b, c⟩
          by_cases e : p = j
          · rw [e] at c; exact absurd c hc
          · exact ⟨p, a, by omega, c⟩)
      rw [decide_eq_false hc] at hb
      exact ⟨r, Ev.step (f := fun k => _) (fun k => by
        simp only [interlockref10_Preds.l1]
        rw [if_pos (show (j : Int) < (ss.length : Int) by omega), if_pos (show 0 ≤ (j : Int) by omega), show rd_L1 ss (j : Int) = ss.getD j [] by unfold rd_L1; rw [Int.toNat_natCast], up j (by omega)]) (Ev.bind hb (ev_neg (show ¬ (false = true) by decide) r1)), r2⟩
include hg in
theorem rpreds_l0 : ∀ (d i : Nat) (out : List (List Int)), i + d = ss.length → out.length = i → (∀ q, q < i → PrOk ss q (out.getD q [])) →
    ∃ r : List (List Int), Ev (fun k => interlockref10_Preds.l0 k ss out (i : Int)) r ∧ r.length = ss.length ∧ ∀ q, q < ss.length → PrOk ss q (r.getD q [])
  | 0, i, out, hi, ho, hq => ⟨out, Ev.step (f := fun _ => some out) (fun k => by
      simp only [interlockref10_Preds.l0]
      rw [if_neg (by omega)]) (Ev.now _), by omega, fun q h => hq q (by omega)⟩
  | d + 1, i, out, hi, ho, hq => by
    obtain ⟨r, r1, r2⟩ := rpreds_l1 hg i out ho (by omega) (fun l hl => rpreds_l0 d (i + 1) (out ++ [l]) (by omega) (by rw [List.length_append, List.length_singleton, ho]) (fun q hq2 => by
      rw [List.getD_eq_getElem?_getD]
      by_cases e : q < i
      · rw [List.getElem?_append_left (by omega), ← List.getD_eq_getElem?_getD]
        exact hq q e
      · have : q = i := by omega
        subst this
        rw [List.getElem?_append_right (by omega), ho, Nat.sub_self]
        exact hl)) ss.length 0 [] (Nat.zero_add _) (Nat.le_refl _) (fun x => ⟨fun h => (by cases h), fun ⟨p, _, b, _⟩ => by omega⟩)
    exact ⟨r, Ev.step (f := fun k => _) (fun k => by
      simp only [interlockref10_Preds.l0]
      rw [if_pos (show (i : Int) < (ss.length : Int) by omega)]; rfl) r1, r2⟩
include hg in
theorem rpreds_ev : ∃ r : List (List Int), Ev (fun k => interlockref10_Preds.f k ss) r ∧ r.length = ss.length ∧ ∀ q, q < ss.length → PrOk ss q (r.getD q []) := rpreds_l0 hg ss.length 0 [] (Nat.zero_add _) rfl (fun q hq => by omega)
end
open Classical in
theorem loops_rise (ss : List (List Int)) : ∀ (d h : Nat), (loopsFrom ss d h).Pairwise (fun A B => A.f0 < B.f0) ∧ ∀ M ∈ loopsFrom ss d h, (h : Int) ≤ M.f0
  | 0, h => ⟨List.Pairwise.nil, fun M hM => by cases hM⟩
  | d + 1, h => by
    obtain ⟨h1, h2⟩ := loops_rise ss d (h + 1)
    simp only [loopsFrom]
    by_cases hh : Head ss h
    · rw [if_pos hh]
      refine ⟨List.pairwise_cons.2 ⟨fun M hM => ?_, h1⟩, fun M hM => ?_⟩
      · have := h2 M hM
        show (h : Int) < M.f0
        omega
      · rcases List.mem_cons.1 hM with c | c
        · rw [c]; exact Int.le_refl _
        · have := h2 M c; omega
    · rw [if_neg hh]
      exact ⟨h1, fun M hM => by have := h2 M hM; omega⟩
open Classical in
theorem bodyL_rise (ss : List (List Int)) (h : Nat) : (bodyL ss h).Pairwise (· < ·) := by
  unfold bodyL
  refine List.Pairwise.map _ (fun a b hab => ?_) (List.Pairwise.filter _ List.pairwise_lt_range)
  exact Int.ofNat_lt.2 hab
end Go.Proofs.YtbnkeddnibjncaaDoor.Th
