import Derived.Test.YtbnkeddnibjncaaDoorGR
import Derived.Test.YtbnkeddnibjncaaDoorLS
import Derived.Test.YtbnkeddnibjncaaDoorSLoopTwo
namespace Go.Proofs.YtbnkeddnibjncaaDoor.Pure
set_option linter.unusedVariables false
open Go Go.RowKit Go.Proofs.YtbnkeddnibjncaaDoor.P Go.Proofs.YtbnkeddnibjncaaDoor.Opn Go.Proofs.YtbnkeddnibjncaaDoor.Th Go.Proofs.YtbnkeddnibjncaaDoorW.PrintWords Go.Proofs.YtbnkeddnibjncaaDoorW.PrintLast Go.Proofs.YtbnkeddnibjncaaDoorW.PrintMore
/-- Two loops: nothing in common, or all of the lesser one. -/
theorem two_common {ss : List (List Int)} {L M : S35} (hL : IsLoop ss L) (hM : IsLoop ss M) (c : Nat) (hc : c = (L.f1.filter fun x => decide (x ∈ M.f1)).length) : c = 0 ∨ L.f1.length ≤ c ∨ M.f1.length ≤ c := by
  classical
  obtain ⟨a, ha, rfl⟩ := hL
  obtain ⟨b, hb, rfl⟩ := hM
  by_cases hx : ∃ x, InB ss a x ∧ InB ss b x
  · obtain ⟨x, hxa, hxb⟩ := hx
    have hsub : (∀ y, InB ss a y → InB ss b y) ∨ (∀ y, InB ss b y → InB ss a y) := by
      by_cases hab : a = b
      · subst hab; exact .inl (fun _ h => h)
      · rcases (hxa.dom ha.rch).chain (hxb.dom hb.rch) with h | h
        · exact .inr (InB.sub ha hb hab h hxa hxb)
        · exact .inl (InB.sub hb ha (fun e => hab e.symm) h hxb hxa)
    rcases hsub with h | h
    · refine .inr (.inl ?_)
      rw [hc]
      refine Nat.le_of_eq ?_
      rw [List.filter_eq_self.2]
      intro y hy
      obtain ⟨z, rfl, hz⟩ := (bodyL_mem ss a ha.rch y).1 hy
      exact decide_eq_true ((bodyL_mem ss b hb.rch _).2 ⟨z, rfl, h z hz⟩)
    · refine .inr (.inr ?_)
      rw [hc]
      refine Nat.le_of_eq ?_
      show (bodyL ss b).length = ((bodyL ss a).filter fun x => decide (x ∈ bodyL ss b)).length
      unfold bodyL
      rw [List.filter_map, List.length_map, List.length_map, List.filter_filter]
      congr 1
      refine List.filter_congr (fun y hy => ?_)
      rw [Bool.eq_iff_iff, decide_eq_true_iff, Bool.and_eq_true, decide_eq_true_iff]
      show InB ss b y ↔ decide ((y : Int) ∈ bodyL ss b) = true ∧ InB ss a y
      rw [decide_eq_true_iff, bodyL_mem ss b hb.rch]
      constructor
      · exact fun q => ⟨⟨y, rfl, q⟩, h y q⟩
      · rintro ⟨⟨z, e, q⟩, _⟩
        have : y = z := by omega
        rw [this]; exact q
  · refine .inl ?_
    rw [hc, List.length_eq_zero_iff, List.filter_eq_nil_iff]
    intro y hy hy2
    obtain ⟨z, rfl, hz⟩ := (bodyL_mem ss a ha.rch y).1 hy
    obtain ⟨z2, e, hz2⟩ := (bodyL_mem ss b hb.rch _).1 (of_decide_eq_true hy2)
    have : z = z2 := by omega
    subst this
    exact hx ⟨z, hz, hz2⟩
def cnt (l m : List Int) (j : Nat) : Nat := ((l.take j).filter fun x => decide (x ∈ m)).length
theorem cnt_snoc (l m : List Int) (j : Nat) (hj : j < l.length) : cnt l m (j + 1) = cnt l m j + (if l.getD j 0 ∈ m then 1 else 0) := by
  have e : l.getD j 0 = l[j] := by rw [List.getD_eq_getElem?_getD, List.getElem?_eq_getElem hj]; rfl
  rw [e]
  unfold cnt
  rw [List.take_add_one, List.filter_append, List.length_append, List.getElem?_eq_getElem hj]
  show _ + (List.filter (fun x => decide (x ∈ m)) [l[j]]).length = _
  split
  · rename_i h; rw [List.filter_cons_of_pos (by simpa using h)]; rfl
  · rename_i h; rw [List.filter_cons_of_neg (by simpa using h)]; rfl
section
variable {ss : List (List Int)} {L : List S35} (hL : ∀ M ∈ L, IsLoop ss M) (hn : ss.length ≤ 12) (hl : L.length ≤ 12)
theorem rdT (L : List S35) (i : Nat) (hi : i < L.length) : rd_T35 L (i : Int) ∈ L := by
  unfold rd_T35
  rw [Int.toNat_natCast, List.getD_eq_getElem?_getD, List.getElem?_eq_getElem hi]
  exact List.getElem_mem hi
include hL hn hl in
theorem two_l2 (i k : Nat) (hi : i < L.length) (hk : k < L.length) (A B : List Int) (hA : (rd_T35 L (i : Int)).f1 = A) (hB : (rd_T35 L (k : Int)).f1 = B) (cont : Ev (fun q => interlocklaw12_LoopTwo.l1 q L (i : Int) ((k + 1 : Nat) : Int)) true) : ∀ (d j : Nat), j + d = A.length →
    Ev (fun q => interlocklaw12_LoopTwo.l2 q L (i : Int) (k : Int) (cnt A B j : Int) (j : Int)) true
  | 0, j, hj => by
    have h1 := hL _ (rdT L i hi)
    have h2 := hL _ (rdT L k hk)
    have l1 := h1.len
    have l2 := h2.len
    rw [hA] at l1
    rw [hB] at l2
    have hc := two_common h1 h2 (cnt A B j) (by rw [hA, hB]; unfold cnt; rw [List.take_of_length_le (by omega)])
    rw [hA, hB] at hc
    refine Ev.step (f := fun q => _) (fun q => by
      simp only [interlocklaw12_LoopTwo.l2]
      rw [if_pos (show 0 ≤ (i : Int) by omega), if_pos (show (i : Int) < (L.length : Int) by omega), hA, hB, if_neg (show ¬ (j : Int) < (A.length : Int) by omega)]) ?_
    rw [← up k (by omega)] at cont
    by_cases c0 : (cnt A B j : Int) > 0
    · refine ev_pos c0 ?_
      by_cases c1 : (cnt A B j : Int) < (A.length : Int)
      · refine ev_pos c1 (ev_pos (by omega) (ev_pos (by omega) (ev_neg (by omega) cont)))
      · exact ev_neg c1 cont
    · exact ev_neg c0 cont
  | d + 1, j, hj => by
    have h1 := hL _ (rdT L i hi)
    have h2 := hL _ (rdT L k hk)
    have l1 := h1.len
    have l2 := h2.len
    rw [hA] at l1
    rw [hB] at l2
    have ih := two_l2 i k hi hk A B hA hB cont d (j + 1) (by omega)
    have hcl : cnt A B j ≤ A.length := Nat.le_trans (List.length_filter_le _ _) (by rw [List.length_take]; omega)
    rw [cnt_snoc A B j (by omega)] at ih
    refine Ev.step (f := fun q => _) (fun q => by
      simp only [interlocklaw12_LoopTwo.l2]
      rw [if_pos (show 0 ≤ (i : Int) by omega), if_pos (show (i : Int) < (L.length : Int) by omega), hA, hB, if_pos (show (j : Int) < (A.length : Int) by omega), if_pos (show 0 ≤ (k : Int) by omega), if_pos (show (k : Int) < (L.length : Int) by omega), if_pos (show 0 ≤ (j : Int) by omega), rd_nat, up j (by omega), up (cnt A B j) (by omega)]) ?_
    refine Ev.bind (has_ev B (A.getD j 0) (by omega)) ?_
    by_cases c : A.getD j 0 ∈ B
    · rw [if_pos c] at ih
      exact ev_pos (decide_eq_true c) ih
    · rw [if_neg c, Nat.add_zero] at ih
      exact ev_neg (by rw [decide_eq_false c]; decide) ih
include hL hn hl in
theorem two_l1 (i : Nat) (hi : i < L.length) (cont : Ev (fun q => interlocklaw12_LoopTwo.l0 q L ((i + 1 : Nat) : Int)) true) : ∀ (d k : Nat), k + d = i →
    Ev (fun q => interlocklaw12_LoopTwo.l1 q L (i : Int) (k : Int)) true
  | 0, k, hk => Ev.step (f := fun q => _) (fun q => by
      simp only [interlocklaw12_LoopTwo.l1]
      rw [if_neg (show ¬ (k : Int) < (i : Int) by omega), up i (by omega)]) cont
  | d + 1, k, hk => Ev.step (f := fun q => _) (fun q => by
      simp only [interlocklaw12_LoopTwo.l1]
      rw [if_pos (show (k : Int) < (i : Int) by omega)]; rfl) (two_l2 hL hn hl i k hi (by omega) _ _ rfl rfl (two_l1 i hi cont d (k + 1) (by omega)) (rd_T35 L (i : Int)).f1.length 0 (by omega))
include hL hn hl in
theorem two_l0 : ∀ (d i : Nat), i + d = L.length → Ev (fun q => interlocklaw12_LoopTwo.l0 q L (i : Int)) true
  | 0, i, hi => Ev.step (f := fun q => _) (fun q => by
      simp only [interlocklaw12_LoopTwo.l0]
      rw [if_neg (show ¬ (i : Int) < (L.length : Int) by omega)]) (Ev.bind known_ev (Ev.now _))
  | d + 1, i, hi => Ev.step (f := fun q => _) (fun q => by
      simp only [interlocklaw12_LoopTwo.l0]
      rw [if_pos (show (i : Int) < (L.length : Int) by omega)]; rfl) (two_l1 hL hn hl i (by omega) (two_l0 d (i + 1) (by omega)) i 0 (by omega))
end
theorem LoopTwo : Stmt.LoopTwo := by
  intro a0 l1 h0 h1
  obtain ⟨b0, b1⟩ := bounds_u8 h0
  have hby : ∀ x ∈ l1, 0 ≤ x ∧ x ≤ 255 := fun x hx => by obtain ⟨q0, q1⟩ := bounds_u8 (h1.2 x hx); exact ⟨q0, by omega⟩
  refine Ev.rounds (r := true) ?_
  unfold interlocklaw12_LoopTwo.f
  obtain ⟨g, g1, g2, g3, g4⟩ := graph_ev a0 l1 ⟨b0, by omega⟩ hby
  have hlen := loops_len g g.length 0
  exact Ev.bind g1 (Ev.bind (of_ev (graph_ok g3 g4)) (two_l0 (ss := g) (L := OfN g) (fun M hM => loops_mem g g.length 0 M hM) g3 (Nat.le_trans hlen g3) (OfN g).length 0 (Nat.zero_add _)))
end Go.Proofs.YtbnkeddnibjncaaDoor.Pure
